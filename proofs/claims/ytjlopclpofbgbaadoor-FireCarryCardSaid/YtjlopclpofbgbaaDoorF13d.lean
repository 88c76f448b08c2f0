/- Contracts of functions of the given program, without a condition beyond those that each theorem states; they lead to the given statement. -/
import Derived.Test.YtjlopclpofbgbaaDoorF13a
import Derived.Test.YtjlopclpofbgbaaDoorF12a
import Derived.Test.YtjlopclpofbgbaaDoorF11d
import Derived.Test.YtjlopclpofbgbaaDoorF11bxd
import Derived.Test.YtjlopclpofbgbaaDoorF11b
import Derived.Test.YtjlopclpofbgbaaDoorF11axd
import Derived.Test.YtjlopclpofbgbaaDoorF11a
import Derived.Test.YtjlopclpofbgbaaDoorF10v
import Derived.Test.YtjlopclpofbgbaaDoorF10s
import Derived.Test.YtjlopclpofbgbaaDoorF10r
import Derived.Test.YtjlopclpofbgbaaDoorF10qxd
import Derived.Test.YtjlopclpofbgbaaDoorF10q
import Derived.Test.YtjlopclpofbgbaaDoorF10p
import Derived.Test.YtjlopclpofbgbaaDoorF10o
import Derived.Test.YtjlopclpofbgbaaDoorF10n
import Derived.Test.YtjlopclpofbgbaaDoorF10m
import Derived.Test.YtjlopclpofbgbaaDoorF10l
import Derived.Test.YtjlopclpofbgbaaDoorF10kxd
import Derived.Test.YtjlopclpofbgbaaDoorF10k
import Derived.Test.YtjlopclpofbgbaaDoorF10jxd
import Derived.Test.YtjlopclpofbgbaaDoorF10j
import Derived.Test.YtjlopclpofbgbaaDoorF10i
import Derived.Test.YtjlopclpofbgbaaDoorF10h
import Derived.Test.YtjlopclpofbgbaaDoorF10g
import Derived.Test.YtjlopclpofbgbaaDoorF10f
import Derived.Test.YtjlopclpofbgbaaDoorF10e
import Derived.Test.YtjlopclpofbgbaaDoorF10d
import Derived.Test.YtjlopclpofbgbaaDoorF10c
import Derived.Test.YtjlopclpofbgbaaDoorF10b
import Derived.Test.YtjlopclpofbgbaaDoorF10a
import Derived.Test.YtjlopclpofbgbaaDoorTyp
import Derived.Test.YtjlopclpofbgbaaDoorFlB
import Derived.Test.YtjlopclpofbgbaaDoorFlA
import Derived.WalkKit
import Derived.OwnWalkIn
import Derived.OrdersIn
import Derived.LoopNIn
import Derived.LoopIn
import Derived.RangeFuncNested
import Derived.RangeFuncBound
import Derived.RangeFuncLeaves
import Derived.Maps.OwnSet
import Derived.Laws.Tables
import Derived.Great.BuildSlice
import Derived.Maps.Views
import Derived.WalkSpells
import Derived.Carry
import Derived.Test.YtjlopclpofbgbaaDoorProg
import Derived.Test.YtjlopclpofbgbaaDoorF10u
import Derived.Test.YtjlopclpofbgbaaDoorF11c
import Derived.Test.YtjlopclpofbgbaaDoorF10z
import Derived.Test.YtjlopclpofbgbaaDoorF10y
import Derived.Test.YtjlopclpofbgbaaDoorF10t
import Derived.Test.YtjlopclpofbgbaaDoorF10w
import Derived.Test.YtjlopclpofbgbaaDoorF10x
import Derived.Test.YtjlopclpofbgbaaDoorF13c
set_option linter.unusedSimpArgs false
set_option linter.unusedVariables false
set_option maxRecDepth 100000
namespace Go.Proofs.YtjlopclpofbgbaaDoor
open Go Go.Fl
open Classical
def sF13d_f85_8 : List (Nat × Nat) := [(0, 0), (0, 0), (0, 0), (0, 0), (0, 0), (0, 0), (0, 0), (0, 0), (0, 0), (0, 0), (0, 0)]
def sF13d_f37_16 : List (Nat × Nat) := [(0, 0), (0, 0), (0, 0), (0, 0), (0, 0), (0, 0), (0, 0), (0, 0), (0, 0)]
def sF13d_f37_17 : List (Nat × Nat) := [(0, 0), (0, 0), (0, 0), (0, 0), (0, 0), (0, 0), (0, 0), (0, 0), (0, 0), (0, 0), (0, 0)]
noncomputable def f1 (c : List Int) : List Int → Int
  | [] => -1
  | x :: _ => gv c x
def i1 (c : List Int) (L : List Int) : Prop := ∃ y, y ∈ L ∧ gv c y ≠ f1 c L
theorem i1_nil {c : List Int} : ¬ i1 c [] := by rintro ⟨y, h, _⟩; simp at h
theorem i1_one {c : List Int} {x : Int} : ¬ i1 c [x] := by
  rintro ⟨y, h, h2⟩
  rw [List.mem_singleton] at h; subst h; exact h2 rfl
theorem f1_snoc {c : List Int} {z x : Int} {r : List Int} : f1 c (z :: r ++ [x]) = f1 c (z :: r) := rfl
theorem i1_snoc {c : List Int} {z x : Int} {r : List Int} : i1 c (z :: r ++ [x]) ↔ i1 c (z :: r) ∨ gv c x ≠ f1 c (z :: r) := by
  unfold i1
  rw [f1_snoc]
  constructor
  · rintro ⟨y, h, h2⟩
    rcases List.mem_append.1 h with q | q
    · exact .inl ⟨y, q, h2⟩
    · rw [List.mem_singleton] at q; subst q; exact .inr h2
  · rintro (⟨y, h, h2⟩ | h)
    · exact ⟨y, List.mem_append_left _ h, h2⟩
    · exact ⟨x, by simp, h⟩
theorem i1_two {c L : List Int} : i1 c L ↔ ∃ x y, x ∈ L ∧ y ∈ L ∧ gv c x ≠ gv c y := by
  rcases L with _ | ⟨z, r⟩
  · exact ⟨fun h => absurd h i1_nil, by rintro ⟨x, y, h, _⟩; simp at h⟩
  · constructor
    · rintro ⟨y, h, h2⟩; exact ⟨y, z, h, by simp, h2⟩
    · rintro ⟨x, y, hx, hy, h⟩
      by_cases q : gv c x = gv c z
      · exact ⟨y, hy, fun e => h (by rw [q]; exact e.symm)⟩
      · exact ⟨x, hx, q⟩
theorem f1_nil {c : List Int} : f1 c [] = -1 := rfl
noncomputable abbrev ofP (t : Town) (p : Int) (L : List Int) : List Int := fil (fun x => pg t x = p) L
set_option maxHeartbeats 2000000 in
theorem c85 (t : Town) (hv : validT t) (P fs c : List Int) (hfs : ∀ x, x ∈ fs → 0 ≤ x ∧ x < t.ts.length) (hc : c.length = t.ts.length) (hc0 : ∀ i : Nat, i < c.length → 0 ≤ gv c i) (hP : P.length ≤ 100) (hfl : fs.length ≤ 100) : PC Tryd.prog 85 [hF t, lN P, lN fs, lN c] (.bool (decide (∀ p, p ∈ P → i1 c (ofP t p fs)))) := by
  refine PC.body Tryd.func85 (by kernel_rfl) rfl (by simp [Tryd.f85]) rfl ?_
  simp only [Tryd.f85]
  intro hlen
  simp only [go_sem, List.length_map, and_true, true_and] at hlen
  refine CV.run ?_
  (repeat' (first | ((with_reducible first | apply sg | apply si | apply sq | apply sd) <;> intro hb <;> (try rw [hb]) <;> (try simp only [bq, bz, dtrue, dfalse] at hb) <;> (try simp only [within] at hb) <;> try simp only [go_sem]) | refine And.intro (by first | exact ⟨⟩ | omega | (simp only [I64]; omega)) ?_ | (with_reducible rw [vc_draw_eq]; first | (refine CV.draw (id := 8) sF13d_f85_8 mixed rfl (by kernel_rfl) ?_; delta sF13d_f85_8)) | (simp only [go_sem])))
  refine vc_for (fun i => ⟨[(9, .int .i64 i), (8, .bool false), (4, .lp 0 0), (3, lN c), (2, lN fs), (1, lN P)], [.box 28 (cT t) false]⟩) P.length (fun i => ∀ p, p ∈ P.take i → i1 c (ofP t p fs)) (by (first | exact wk_same (by simp only [go_sem, Int.natCast_add, cn, Int.cast_ofNat_Int]) | (refine wk_drop ?_ ?_ ?_ ?_ ?_ <;> simp only [go_sem, Int.natCast_add, cn, Int.cast_ofNat_Int]))) (by simp) ?_
  intro i hi hX
  rcases Nat.lt_or_ge i P.length with hlt | hge
  · have hlt' : (i : Int) < P.length := by omega
    obtain ⟨p, hp⟩ := get_of hlt
    (repeat' (first | ((with_reducible first | apply sg | apply si | apply sq | apply sd) <;> intro hb <;> (try rw [hb]) <;> (try simp only [bq, bz, dtrue, dfalse] at hb) <;> (try simp only [within] at hb) <;> try simp only [go_sem]) | refine And.intro (by first | exact ⟨⟩ | omega | (simp only [I64]; omega)) ?_ | (with_reducible rw [vc_draw_eq]; first | (refine CV.draw (id := 8) sF13d_f85_8 mixed rfl (by kernel_rfl) ?_; delta sF13d_f85_8)) | (simp only [go_sem, hlt', List.length_map])))
    refine vc_for (fun k => ⟨[(12, .int .i64 k), (11, .bool (decide (i1 c (ofP t p (fs.take k))))), (10, .int .i64 (f1 c (ofP t p (fs.take k)))), (9, .int .i64 i), (8, .bool false), (4, .lp 0 0), (3, lN c), (2, lN fs), (1, lN P)], [.box 28 (cT t) false]⟩) fs.length (fun _ => True) (by (first | exact wk_same (by simp only [go_sem, Int.natCast_add, cn, Int.cast_ofNat_Int, List.take_zero, fil, List.filter_nil, f1_nil, decide_eq_false i1_nil]) | (refine wk_drop ?_ ?_ ?_ ?_ ?_ <;> simp only [go_sem, Int.natCast_add, cn, Int.cast_ofNat_Int, List.take_zero, fil, List.filter_nil, f1_nil, decide_eq_false i1_nil]))) trivial ?_
    intro k hk _
    rcases Nat.lt_or_ge k fs.length with hkl | hkg
    · have hkl' : (k : Int) < fs.length := by omega
      obtain ⟨x, hx⟩ := get_of hkl
      obtain ⟨x0, x1⟩ := hfs x (List.mem_of_getElem? hx)
      obtain ⟨y, hy⟩ := get_of (l := c) (j := x.toNat) (by omega)
      have gy := gv_of hy
      have hxl : x < c.length := by omega
      have h47 := c47 t hv.things x x0 x1
      by_cases b1 : pg t x = p
      · have b1' := eq_true b1
        have e := fil_yes (q := fun x => pg t x = p) hx b1
        rcases hL : ofP t p (fs.take k) with _ | ⟨z, r⟩
        · have hL' := hL
          unfold ofP at hL'
          have e1 : ofP t p (fs.take (k + 1)) = [x] := by unfold ofP; rw [e, hL']; rfl
          have e2 : f1 c (ofP t p (fs.take (k + 1))) = y := by rw [e1]; exact gy
          have e3 : decide (i1 c (ofP t p (fs.take (k + 1)))) = false := by rw [e1]; exact decide_eq_false i1_one
          have e4 : decide (i1 c []) = false := decide_eq_false i1_nil
          rw [e4]
          (repeat' (first | ((with_reducible first | apply sg | apply si | apply sq | apply sd) <;> intro hb <;> (try rw [hb]) <;> (try simp only [bq, bz, dtrue, dfalse] at hb) <;> (try simp only [within] at hb) <;> try simp only [go_sem]) | refine And.intro (by first | exact ⟨⟩ | omega | (simp only [I64]; omega)) ?_ | (with_reducible rw [vc_draw_eq]; first | (refine CV.draw (id := 8) sF13d_f85_8 mixed rfl (by kernel_rfl) ?_; delta sF13d_f85_8)) | ((with_reducible first | refine vp h47 ?_ ?_ | refine dc h47 ?_ ?_); focus (first | exact ⟨rfl, .inl ⟨by first | rfl | (simp only [go_sem, hkl', hlt', hx, hp, hy, hxl, b1', f1_nil, encN, List.length_map, AV.pureL, AV.pure]; done), by first | (simp only [go_sem, hkl', hlt', hx, hp, hy, hxl, b1', f1_nil, encN, List.length_map, AV.pureL, AV.pure]; done) | rfl⟩⟩ | exact ⟨rfl, .inr ⟨rfl, by simp only [go_sem, hkl', hlt', hx, hp, hy, hxl, b1', f1_nil, encN, List.length_map]⟩⟩)) | ((with_reducible first | refine dp h47 ?_ ?_); focus (exact ⟨rfl, by first | rfl | (simp only [go_sem, hkl', hlt', hx, hp, hy, hxl, b1', f1_nil, encN, List.length_map, AV.pureL, AV.pure]; done), by first | (simp only [go_sem, hkl', hlt', hx, hp, hy, hxl, b1', f1_nil, encN, List.length_map, AV.pureL, AV.pure]; done) | rfl⟩)) | ((with_reducible first | refine ds h47 ?_ ?_); focus exact ⟨rfl, rfl⟩) | (simp only [go_sem, hkl', hlt', hx, hp, hy, hxl, b1', f1_nil, encN, List.length_map])))
          all_goals exact (by (first | exact wk_same (by simp only [go_sem, Int.natCast_add, cn, Int.cast_ofNat_Int, e2, e3]) | (refine wk_drop ?_ ?_ ?_ ?_ ?_ <;> simp only [go_sem, Int.natCast_add, cn, Int.cast_ofNat_Int, e2, e3])))
        · have hL' := hL
          unfold ofP at hL'
          have e1 : ofP t p (fs.take (k + 1)) = z :: r ++ [x] := by unfold ofP; rw [e, hL']
          have e2 : f1 c (ofP t p (fs.take (k + 1))) = f1 c (z :: r) := by rw [e1, f1_snoc]
          have hz : z ∈ fs := List.mem_of_mem_take (fil_mem.1 (show z ∈ fil (fun x => pg t x = p) (fs.take k) by rw [hL']; simp)).1
          obtain ⟨z0, z1⟩ := hfs z hz
          have hf0 : ¬ f1 c (z :: r) < 0 := by
            have := hc0 z.toNat (by omega)
            rw [show ((z.toNat : Nat) : Int) = z from by omega] at this
            show ¬ gv c z < 0
            omega
          generalize hF1 : f1 c (z :: r) = F1 at *
          by_cases b2 : i1 c (z :: r)
          · have e3 : decide (i1 c (ofP t p (fs.take (k + 1)))) = true := by rw [e1]; exact decide_eq_true (i1_snoc.2 (.inl b2))
            rw [decide_eq_true b2]
            (repeat' (first | ((with_reducible first | apply sg | apply si | apply sq | apply sd) <;> intro hb <;> (try rw [hb]) <;> (try simp only [bq, bz, dtrue, dfalse] at hb) <;> (try simp only [within] at hb) <;> try simp only [go_sem]) | refine And.intro (by first | exact ⟨⟩ | omega | (simp only [I64]; omega)) ?_ | (with_reducible rw [vc_draw_eq]; first | (refine CV.draw (id := 8) sF13d_f85_8 mixed rfl (by kernel_rfl) ?_; delta sF13d_f85_8)) | ((with_reducible first | refine vp h47 ?_ ?_ | refine dc h47 ?_ ?_); focus (first | exact ⟨rfl, .inl ⟨by first | rfl | (simp only [go_sem, hkl', hlt', hx, hp, hy, hxl, b1', hf0, encN, List.length_map, AV.pureL, AV.pure]; done), by first | (simp only [go_sem, hkl', hlt', hx, hp, hy, hxl, b1', hf0, encN, List.length_map, AV.pureL, AV.pure]; done) | rfl⟩⟩ | exact ⟨rfl, .inr ⟨rfl, by simp only [go_sem, hkl', hlt', hx, hp, hy, hxl, b1', hf0, encN, List.length_map]⟩⟩)) | ((with_reducible first | refine dp h47 ?_ ?_); focus (exact ⟨rfl, by first | rfl | (simp only [go_sem, hkl', hlt', hx, hp, hy, hxl, b1', hf0, encN, List.length_map, AV.pureL, AV.pure]; done), by first | (simp only [go_sem, hkl', hlt', hx, hp, hy, hxl, b1', hf0, encN, List.length_map, AV.pureL, AV.pure]; done) | rfl⟩)) | ((with_reducible first | refine ds h47 ?_ ?_); focus exact ⟨rfl, rfl⟩) | (simp only [go_sem, hkl', hlt', hx, hp, hy, hxl, b1', hf0, encN, List.length_map])))
            all_goals exact (by (first | exact wk_same (by simp only [go_sem, Int.natCast_add, cn, Int.cast_ofNat_Int, e2, e3]) | (refine wk_drop ?_ ?_ ?_ ?_ ?_ <;> simp only [go_sem, Int.natCast_add, cn, Int.cast_ofNat_Int, e2, e3])))
          · rw [decide_eq_false b2]
            by_cases b3 : y = F1
            · have b3' := eq_true b3
              have e3 : decide (i1 c (ofP t p (fs.take (k + 1)))) = false := by rw [e1]; exact decide_eq_false fun h => (i1_snoc.1 h).elim b2 fun h => h (by rw [gy, hF1]; exact b3)
              (repeat' (first | ((with_reducible first | apply sg | apply si | apply sq | apply sd) <;> intro hb <;> (try rw [hb]) <;> (try simp only [bq, bz, dtrue, dfalse] at hb) <;> (try simp only [within] at hb) <;> try simp only [go_sem]) | refine And.intro (by first | exact ⟨⟩ | omega | (simp only [I64]; omega)) ?_ | (with_reducible rw [vc_draw_eq]; first | (refine CV.draw (id := 8) sF13d_f85_8 mixed rfl (by kernel_rfl) ?_; delta sF13d_f85_8)) | ((with_reducible first | refine vp h47 ?_ ?_ | refine dc h47 ?_ ?_); focus (first | exact ⟨rfl, .inl ⟨by first | rfl | (simp only [go_sem, hkl', hlt', hx, hp, hy, hxl, b1', hf0, b3', encN, List.length_map, AV.pureL, AV.pure]; done), by first | (simp only [go_sem, hkl', hlt', hx, hp, hy, hxl, b1', hf0, b3', encN, List.length_map, AV.pureL, AV.pure]; done) | rfl⟩⟩ | exact ⟨rfl, .inr ⟨rfl, by simp only [go_sem, hkl', hlt', hx, hp, hy, hxl, b1', hf0, b3', encN, List.length_map]⟩⟩)) | ((with_reducible first | refine dp h47 ?_ ?_); focus (exact ⟨rfl, by first | rfl | (simp only [go_sem, hkl', hlt', hx, hp, hy, hxl, b1', hf0, b3', encN, List.length_map, AV.pureL, AV.pure]; done), by first | (simp only [go_sem, hkl', hlt', hx, hp, hy, hxl, b1', hf0, b3', encN, List.length_map, AV.pureL, AV.pure]; done) | rfl⟩)) | ((with_reducible first | refine ds h47 ?_ ?_); focus exact ⟨rfl, rfl⟩) | (simp only [go_sem, hkl', hlt', hx, hp, hy, hxl, b1', hf0, b3', encN, List.length_map])))
              all_goals exact (by (first | exact wk_same (by simp only [go_sem, Int.natCast_add, cn, Int.cast_ofNat_Int, e2, e3]) | (refine wk_drop ?_ ?_ ?_ ?_ ?_ <;> simp only [go_sem, Int.natCast_add, cn, Int.cast_ofNat_Int, e2, e3])))
            · have e3 : decide (i1 c (ofP t p (fs.take (k + 1)))) = true := by rw [e1]; exact decide_eq_true (i1_snoc.2 (.inr (by rw [gy, hF1]; exact b3)))
              (repeat' (first | ((with_reducible first | apply sg | apply si | apply sq | apply sd) <;> intro hb <;> (try rw [hb]) <;> (try simp only [bq, bz, dtrue, dfalse] at hb) <;> (try simp only [within] at hb) <;> try simp only [go_sem]) | refine And.intro (by first | exact ⟨⟩ | omega | (simp only [I64]; omega)) ?_ | (with_reducible rw [vc_draw_eq]; first | (refine CV.draw (id := 8) sF13d_f85_8 mixed rfl (by kernel_rfl) ?_; delta sF13d_f85_8)) | ((with_reducible first | refine vp h47 ?_ ?_ | refine dc h47 ?_ ?_); focus (first | exact ⟨rfl, .inl ⟨by first | rfl | (simp only [go_sem, hkl', hlt', hx, hp, hy, hxl, b1', hf0, b3, encN, List.length_map, AV.pureL, AV.pure]; done), by first | (simp only [go_sem, hkl', hlt', hx, hp, hy, hxl, b1', hf0, b3, encN, List.length_map, AV.pureL, AV.pure]; done) | rfl⟩⟩ | exact ⟨rfl, .inr ⟨rfl, by simp only [go_sem, hkl', hlt', hx, hp, hy, hxl, b1', hf0, b3, encN, List.length_map]⟩⟩)) | ((with_reducible first | refine dp h47 ?_ ?_); focus (exact ⟨rfl, by first | rfl | (simp only [go_sem, hkl', hlt', hx, hp, hy, hxl, b1', hf0, b3, encN, List.length_map, AV.pureL, AV.pure]; done), by first | (simp only [go_sem, hkl', hlt', hx, hp, hy, hxl, b1', hf0, b3, encN, List.length_map, AV.pureL, AV.pure]; done) | rfl⟩)) | ((with_reducible first | refine ds h47 ?_ ?_); focus exact ⟨rfl, rfl⟩) | (simp only [go_sem, hkl', hlt', hx, hp, hy, hxl, b1', hf0, b3, encN, List.length_map])))
              all_goals exact (by (first | exact wk_same (by simp only [go_sem, Int.natCast_add, cn, Int.cast_ofNat_Int, e2, e3]) | (refine wk_drop ?_ ?_ ?_ ?_ ?_ <;> simp only [go_sem, Int.natCast_add, cn, Int.cast_ofNat_Int, e2, e3])))
      · have e := fil_no (q := fun x => pg t x = p) hx b1
        have e1 : ofP t p (fs.take (k + 1)) = ofP t p (fs.take k) := e
        (repeat' (first | ((with_reducible first | apply sg | apply si | apply sq | apply sd) <;> intro hb <;> (try rw [hb]) <;> (try simp only [bq, bz, dtrue, dfalse] at hb) <;> (try simp only [within] at hb) <;> try simp only [go_sem]) | refine And.intro (by first | exact ⟨⟩ | omega | (simp only [I64]; omega)) ?_ | (with_reducible rw [vc_draw_eq]; first | (refine CV.draw (id := 8) sF13d_f85_8 mixed rfl (by kernel_rfl) ?_; delta sF13d_f85_8)) | ((with_reducible first | refine vp h47 ?_ ?_ | refine dc h47 ?_ ?_); focus (first | exact ⟨rfl, .inl ⟨by first | rfl | (simp only [go_sem, hkl', hlt', hx, hp, b1, encN, List.length_map, AV.pureL, AV.pure]; done), by first | (simp only [go_sem, hkl', hlt', hx, hp, b1, encN, List.length_map, AV.pureL, AV.pure]; done) | rfl⟩⟩ | exact ⟨rfl, .inr ⟨rfl, by simp only [go_sem, hkl', hlt', hx, hp, b1, encN, List.length_map]⟩⟩)) | ((with_reducible first | refine dp h47 ?_ ?_); focus (exact ⟨rfl, by first | rfl | (simp only [go_sem, hkl', hlt', hx, hp, b1, encN, List.length_map, AV.pureL, AV.pure]; done), by first | (simp only [go_sem, hkl', hlt', hx, hp, b1, encN, List.length_map, AV.pureL, AV.pure]; done) | rfl⟩)) | ((with_reducible first | refine ds h47 ?_ ?_); focus exact ⟨rfl, rfl⟩) | (simp only [go_sem, hkl', hlt', hx, hp, b1, encN, List.length_map])))
        all_goals exact (by (first | exact wk_same (by simp only [go_sem, Int.natCast_add, cn, Int.cast_ofNat_Int, e1]) | (refine wk_drop ?_ ?_ ?_ ?_ ?_ <;> simp only [go_sem, Int.natCast_add, cn, Int.cast_ofNat_Int, e1])))
    · have hkg' : ¬ (k : Int) < fs.length := by omega
      have : k = fs.length := by omega
      subst this
      rw [List.take_length]
      by_cases b1 : i1 c (ofP t p fs)
      · rw [decide_eq_true b1]
        (repeat' (first | ((with_reducible first | apply sg | apply si | apply sq | apply sd) <;> intro hb <;> (try rw [hb]) <;> (try simp only [bq, bz, dtrue, dfalse] at hb) <;> (try simp only [within] at hb) <;> try simp only [go_sem]) | refine And.intro (by first | exact ⟨⟩ | omega | (simp only [I64]; omega)) ?_ | (with_reducible rw [vc_draw_eq]; first | (refine CV.draw (id := 8) sF13d_f85_8 mixed rfl (by kernel_rfl) ?_; delta sF13d_f85_8)) | (simp only [go_sem, hkg', List.length_map])))
        all_goals exact ⟨by (first | exact wk_same (by simp only [go_sem, Int.natCast_add, cn, Int.cast_ofNat_Int]) | (refine wk_drop ?_ ?_ ?_ ?_ ?_ <;> simp only [go_sem, Int.natCast_add, cn, Int.cast_ofNat_Int])), fun q hq => by
          rw [take_next hp, List.mem_append, List.mem_singleton] at hq
          rcases hq with hq | rfl
          · exact hX q hq
          · exact b1⟩
      · rw [decide_eq_false b1]
        (repeat' (first | ((with_reducible first | apply sg | apply si | apply sq | apply sd) <;> intro hb <;> (try rw [hb]) <;> (try simp only [bq, bz, dtrue, dfalse] at hb) <;> (try simp only [within] at hb) <;> try simp only [go_sem]) | refine And.intro (by first | exact ⟨⟩ | omega | (simp only [I64]; omega)) ?_ | (with_reducible rw [vc_draw_eq]; first | (refine CV.draw (id := 8) sF13d_f85_8 mixed rfl (by kernel_rfl) ?_; delta sF13d_f85_8)) | (simp only [go_sem, hkg', List.length_map])))
        all_goals exact bf fun h => b1 (h p (List.mem_of_getElem? hp))
  · have hge' : ¬ (i : Int) < P.length := by omega
    rw [List.take_of_length_le hge] at hX
    (repeat' (first | ((with_reducible first | apply sg | apply si | apply sq | apply sd) <;> intro hb <;> (try rw [hb]) <;> (try simp only [bq, bz, dtrue, dfalse] at hb) <;> (try simp only [within] at hb) <;> try simp only [go_sem]) | refine And.intro (by first | exact ⟨⟩ | omega | (simp only [I64]; omega)) ?_ | (with_reducible rw [vc_draw_eq]; first | (refine CV.draw (id := 8) sF13d_f85_8 mixed rfl (by kernel_rfl) ?_; delta sF13d_f85_8)) | (simp only [go_sem, hge', List.length_map])))
    all_goals exact bt hX
noncomputable def bI (t : Town) (E : List Int → Prop) (L : List (List Int)) : Nat → Int × Int × Int
  | 0 => (-1, 0, 0)
  | j + 1 => if E (L.getD j []) ∧ ((bI t E L j).1 < 0 ∨ lexlt (cst t (L.getD j [])) (bI t E L j).2) then ((j : Nat), cst t (L.getD j [])) else bI t E L j
noncomputable def s2 (t : Town) (E : List Int → Prop) (S : Best) (l : List Int) : Best := if E l then (if worse S (cst t l).1 (cst t l).2 then S else some (l, cst t l)) else S
theorem bI_rel {t : Town} {E : List Int → Prop} {L : List (List Int)} : ∀ j, j ≤ L.length → ((L.take j).foldl (s2 t E) none = none ∧ bI t E L j = (-1, 0, 0)) ∨ ∃ (i : Nat) (l : List Int), i < j ∧ L[i]? = some l ∧ (L.take j).foldl (s2 t E) none = some (l, cst t l) ∧ bI t E L j = ((i : Int), cst t l)
  | 0, _ => .inl ⟨rfl, rfl⟩
  | j + 1, hj => by
    have ih := bI_rel (t := t) (E := E) (L := L) j (by omega)
    obtain ⟨x, hx⟩ := get_of (l := L) (j := j) (by omega)
    have hg : L.getD j [] = x := by rw [List.getD_eq_getElem?_getD, hx]; rfl
    rw [show L.take (j + 1) = L.take j ++ [x] from by rw [List.take_add_one, hx]; rfl, List.foldl_append, List.foldl_cons, List.foldl_nil]
    simp only [bI, hg]
    rcases ih with ⟨h1, h2⟩ | ⟨i, l, h1, h2, h3, h4⟩
    · rw [h1, h2]
      by_cases hE : E x
      · refine .inr ⟨j, x, by omega, hx, ?_, ?_⟩
        · rw [s2, if_pos hE, if_neg worse_none]
        · rw [if_pos ⟨hE, .inl (by simp)⟩]
      · refine .inl ⟨by rw [s2, if_neg hE], by rw [if_neg fun h => hE h.1]⟩
    · rw [h3, h4]
      refine .inr ?_
      have hw : worse (some (l, cst t l)) (cst t x).1 (cst t x).2 ↔ ¬ lexlt (cst t x) (cst t l) := by
        constructor
        · rintro ⟨y, e, hy⟩; cases e; exact hy
        · intro h; exact ⟨_, rfl, h⟩
      by_cases hE : E x
      · by_cases hl : lexlt (cst t x) (cst t l)
        · refine ⟨j, x, by omega, hx, ?_, ?_⟩
          · rw [s2, if_pos hE, if_neg fun h => hw.1 h hl]
          · rw [if_pos ⟨hE, .inr hl⟩]
        · refine ⟨i, l, by omega, h2, ?_, ?_⟩
          · rw [s2, if_pos hE, if_pos (hw.2 hl)]
          · rw [if_neg]
            rintro ⟨_, h | h⟩
            · simp only at h; omega
            · exact hl h
      · exact ⟨i, l, by omega, h2, by rw [s2, if_neg hE], by rw [if_neg fun h => hE h.1]⟩
def spE (t : Town) (l : List Int) : Prop := ∀ p, p ∈ pags t → i1 l (ofP t p (sel (fun i : Nat => fr t i) t.ts.length))
theorem spE_safe {t : Town} (hv : validT t) {l : List Int} (hl : isCar t l) : spE t l ↔ safeP { t with pl := l } := by
  have hr := rm_pos hv
  rw [safe_spr (by omega) fun i hi => by
    have := hl.2 i (by rw [hl.1]; exact hi)
    exact ⟨this.1, this.2.1⟩]
  unfold spE spr
  refine forall_congr' fun p => imp_congr_right fun _ => ?_
  rw [i1_two]
  constructor
  · rintro ⟨x, y, hx, hy, hne⟩
    obtain ⟨x1, x2⟩ := fil_mem.1 hx
    obtain ⟨y1, y2⟩ := fil_mem.1 hy
    obtain ⟨i, i1, rfl, i2⟩ := (sel_mem _ _).1 x1
    obtain ⟨j, j1, rfl, j2⟩ := (sel_mem _ _).1 y1
    exact ⟨i, j, i1, j1, i2, j2, x2, y2, hne⟩
  · rintro ⟨i, j, i1, j1, i2, j2, x2, y2, hne⟩
    exact ⟨i, j, fil_mem.2 ⟨(sel_mem _ _).2 ⟨i, i1, rfl, i2⟩, x2⟩, fil_mem.2 ⟨(sel_mem _ _).2 ⟨j, j1, rfl, j2⟩, y2⟩, hne⟩
theorem fold_filter {t : Town} (hv : validT t) : ∀ (C : List (List Int)) (S : Best), (∀ l, l ∈ C → isCar t l) → (C.filter fun l => decide (roomy t l)).foldl (s2 t (spE t)) S = C.foldl (stp t) S
  | [], S, _ => rfl
  | l :: C, S, h => by
    have ih := fun S => fold_filter hv C S fun l hl => h l (by simp [hl])
    have he := spE_safe hv (h l (by simp))
    by_cases hr : roomy t l
    · rw [List.filter_cons_of_pos (by simp [hr]), List.foldl_cons, List.foldl_cons, ih]
      congr 1
      unfold s2 stp
      by_cases hw : worse S (cst t l).1 (cst t l).2
      · rw [if_pos hw, if_pos hw, ite_self]
      · rw [if_neg hw, if_neg hw]
        by_cases q : spE t l
        · rw [if_pos q, if_pos (show endP t l from ⟨hr, he.1 q⟩)]
        · rw [if_neg q, if_neg fun h : endP t l => q (he.2 h.2)]
    · rw [List.filter_cons_of_neg (by simp [hr]), List.foldl_cons, ih]
      congr 1
      unfold stp
      rw [if_neg (show ¬ endP t l from fun h => hr h.1), ite_self]
theorem fold_rem {t : Town} (hv : validT t) : (carR t t.ts.length []).foldl (s2 t (spE t)) none = remT t := by
  rw [remT_fold hv, carR_cars]
  exact fold_filter hv _ _ fun l hl => cars_all.1 hl
theorem carR_mem {t : Town} {l : List Int} (h : l ∈ carR t t.ts.length []) : isCar t l ∧ roomy t l := by
  rw [carR_cars] at h
  obtain ⟨h1, h2⟩ := List.mem_filter.1 h
  exact ⟨cars_all.1 h1, of_decide_eq_true h2⟩
theorem pure_lLL {L : List (List Int)} : (lLL L).pure = true := by
  show AV.pure _ = true
  simp [AV.pure]
theorem c37n (t : Town) (hl2 : t.pl.length ≤ 1000) (h : ¬ validT t) : PC Tryd.prog 37 [hF t] (.tup [.nilS, .int .i64 100]) := by
  have h50 := c50 t hl2
  rw [checkT_no h] at h50
  refine PC.body Tryd.func37 (by kernel_rfl) rfl (by simp [Tryd.f37]) rfl ?_
  simp only [Tryd.f37]
  intro hlen
  simp only [go_sem, List.length_map, and_true, true_and] at hlen
  refine CV.run ?_
  (repeat' (first | ((with_reducible first | apply sg | apply si | apply sq | apply sd) <;> intro hb <;> (try rw [hb]) <;> (try simp only [bq, bz, dtrue, dfalse] at hb) <;> (try simp only [within] at hb) <;> try simp only [go_sem]) | refine And.intro (by first | exact ⟨⟩ | omega | (simp only [I64]; omega)) ?_ | (with_reducible rw [vc_draw_eq]; first | (refine CV.draw (id := 16) sF13d_f37_16 mixed rfl (by kernel_rfl) ?_; delta sF13d_f37_16) | (refine CV.draw (id := 17) sF13d_f37_17 mixed rfl (by kernel_rfl) ?_; delta sF13d_f37_17)) | ((with_reducible first | refine vp h50 ?_ ?_ | refine dc h50 ?_ ?_); focus (first | exact ⟨rfl, .inl ⟨by first | rfl | (simp only [go_sem, AV.pureL, AV.pure]; done), by first | (simp only [go_sem, AV.pureL, AV.pure]; done) | rfl⟩⟩ | exact ⟨rfl, .inr ⟨rfl, by simp only [go_sem]⟩⟩)) | ((with_reducible first | refine dp h50 ?_ ?_); focus (exact ⟨rfl, by first | rfl | (simp only [go_sem, AV.pureL, AV.pure]; done), by first | (simp only [go_sem, AV.pureL, AV.pure]; done) | rfl⟩)) | ((with_reducible first | refine ds h50 ?_ ?_); focus exact ⟨rfl, rfl⟩) | (simp only [go_sem])))
theorem c35n (t : Town) (hl2 : t.pl.length ≤ 1000) (h : ¬ validT t) : PC Tryd.prog 35 [hF t] (.tup [.int .i64 0, .int .i64 100]) := by
  have h37 := c37n t hl2 h
  refine PC.body Tryd.func35 (by kernel_rfl) rfl (by simp [Tryd.f35]) rfl ?_
  simp only [Tryd.f35]
  intro hlen
  simp only [go_sem, List.length_map, and_true, true_and] at hlen
  refine CV.run ?_
  (repeat' (first | ((with_reducible first | apply sg | apply si | apply sq | apply sd) <;> intro hb <;> (try rw [hb]) <;> (try simp only [bq, bz, dtrue, dfalse] at hb) <;> (try simp only [within] at hb) <;> try simp only [go_sem]) | refine And.intro (by first | exact ⟨⟩ | omega | (simp only [I64]; omega)) ?_ | ((with_reducible first | refine vp h37 ?_ ?_); focus (first | exact ⟨rfl, .inl ⟨by first | rfl | (simp only [go_sem, AV.pureL, AV.pure]; done), by first | (simp only [go_sem, AV.pureL, AV.pure]; done) | rfl⟩⟩ | exact ⟨rfl, .inr ⟨rfl, by simp only [go_sem]⟩⟩)) | (simp only [go_sem])))
set_option maxHeartbeats 4000000 in
theorem c37y (t : Town) (hv : validT t) (h6 : t.ts.length ≤ 6) : PC Tryd.prog 37 [hF t] (.tup [lstS (remT t), .int .i64 (eS (remT t))]) := by
  have h8 := hv.len
  have hpl := hv.lp
  have h50 := c50 t (by omega)
  rw [checkT_yes hv] at h50
  have h82 := c82 t hv.things (by omega)
  have h84 := PC.asn (c84 t hv t.ts.length [] h6 (by simp)) (args := [hF t, .nilS]) pure_lLL (by simp [AV.pureL, AV.pure]) (by simp [frzL, frz])
  have hcl := (carR_len (t := t) (rm_pos hv).2 t.ts.length []).1
  have hpw := pow6 h6
  have hmem := fun l => carR_mem (t := t) (l := l)
  have hrem := fold_rem hv
  generalize hL : carR t t.ts.length [] = L at h84 hcl hmem hrem
  have hpg : (pags t).length ≤ 100 := Nat.le_trans (sel_len _ _) (by omega)
  have hsl := fun j => sel_len (fun i : Nat => fr t i) j
  refine PC.body Tryd.func37 (by kernel_rfl) rfl (by simp [Tryd.f37]) pure36 ?_
  simp only [Tryd.f37]
  intro hlen
  simp only [go_sem, List.length_map, and_true, true_and] at hlen
  refine CV.run ?_
  (repeat' (first | ((with_reducible first | apply sg | apply si | apply sq | apply sd) <;> intro hb <;> (try rw [hb]) <;> (try simp only [bq, bz, dtrue, dfalse] at hb) <;> (try simp only [within] at hb) <;> try simp only [go_sem]) | refine And.intro (by first | exact ⟨⟩ | omega | (simp only [I64]; omega)) ?_ | (with_reducible rw [vc_draw_eq]; first | (refine CV.draw (id := 16) sF13d_f37_16 mixed rfl (by kernel_rfl) ?_; delta sF13d_f37_16) | (refine CV.draw (id := 17) sF13d_f37_17 mixed rfl (by kernel_rfl) ?_; delta sF13d_f37_17)) | ((with_reducible first | refine vp h50 ?_ ?_ | refine dc h50 ?_ ?_ | refine vp h82 ?_ ?_ | refine dc h82 ?_ ?_); focus (first | exact ⟨rfl, .inl ⟨by first | rfl | (simp only [go_sem, AV.pureL, AV.pure]; done), by first | (simp only [go_sem, AV.pureL, AV.pure]; done) | rfl⟩⟩ | exact ⟨rfl, .inr ⟨rfl, by simp only [go_sem]⟩⟩)) | ((with_reducible first | refine dp h50 ?_ ?_ | refine dp h82 ?_ ?_); focus (exact ⟨rfl, by first | rfl | (simp only [go_sem, AV.pureL, AV.pure]; done), by first | (simp only [go_sem, AV.pureL, AV.pure]; done) | rfl⟩)) | ((with_reducible first | refine ds h50 ?_ ?_ | refine ds h82 ?_ ?_); focus exact ⟨rfl, rfl⟩) | (simp only [go_sem])))
  refine vc_fw (fun j => ⟨[(7, .int .i64 j), (6, .row 1 (sel (fun i : Nat => fr t i) j).length), (5, lN (pags t)), (3, .int .i64 0), (2, .nilS), (1, .lp 0 0)], [.box 28 (cT t) false, .row 3 1 ((sel (fun i : Nat => fr t i) j).map encN) false]⟩) t.ts.length (fun _ => True) (.nilE 6 3 1 (by (simp only [go_sem])) (by omega) (.base (by (first | exact wk_same (by simp only [go_sem, Int.natCast_add, cn, Int.cast_ofNat_Int, sel, List.map_nil, List.length_nil]) | (refine wk_drop ?_ ?_ ?_ ?_ ?_ <;> simp only [go_sem, Int.natCast_add, cn, Int.cast_ofNat_Int, sel, List.map_nil, List.length_nil]))))) trivial ?_
  intro j hj _
  have hsj := hsl j
  rcases Nat.lt_or_ge j t.ts.length with hlt | hge
  · have hlt' : (j : Int) < t.pl.length := by omega
    have h83 := c83 t hv.things (by omega) j (by omega) (by omega)
    by_cases b1 : fr t j
    · have e := sel_yes (p := fun i : Nat => fr t i) (n := j) b1
      replace h83 := h83.tru b1
      (repeat' (first | ((with_reducible first | apply sg | apply si | apply sq | apply sd) <;> intro hb <;> (try rw [hb]) <;> (try simp only [bq, bz, dtrue, dfalse] at hb) <;> (try simp only [within] at hb) <;> try simp only [go_sem]) | refine And.intro (by first | exact ⟨⟩ | omega | (simp only [I64]; omega)) ?_ | (with_reducible rw [vc_draw_eq]; first | (refine CV.draw (id := 16) sF13d_f37_16 mixed rfl (by kernel_rfl) ?_; delta sF13d_f37_16) | (refine CV.draw (id := 17) sF13d_f37_17 mixed rfl (by kernel_rfl) ?_; delta sF13d_f37_17)) | ((with_reducible first | refine vp h83 ?_ ?_ | refine dc h83 ?_ ?_); focus (first | exact ⟨rfl, .inl ⟨by first | rfl | (simp only [go_sem, hlt', encN, List.length_map, AV.pureL, AV.pure]; done), by first | (simp only [go_sem, hlt', encN, List.length_map, AV.pureL, AV.pure]; done) | rfl⟩⟩ | exact ⟨rfl, .inr ⟨rfl, by simp only [go_sem, hlt', encN, List.length_map]⟩⟩)) | ((with_reducible first | refine dp h83 ?_ ?_); focus (exact ⟨rfl, by first | rfl | (simp only [go_sem, hlt', encN, List.length_map, AV.pureL, AV.pure]; done), by first | (simp only [go_sem, hlt', encN, List.length_map, AV.pureL, AV.pure]; done) | rfl⟩)) | ((with_reducible first | refine ds h83 ?_ ?_); focus exact ⟨rfl, rfl⟩) | (simp only [go_sem, hlt', encN, List.length_map])))
      all_goals first
        | omega
        | exact .base (by (first | exact wk_same (by simp only [go_sem, Int.natCast_add, cn, Int.cast_ofNat_Int, e, encN, List.map_append, List.length_append, List.map_cons, List.map_nil, List.length_cons, List.length_nil]) | (refine wk_drop ?_ ?_ ?_ ?_ ?_ <;> simp only [go_sem, Int.natCast_add, cn, Int.cast_ofNat_Int, e, encN, List.map_append, List.length_append, List.map_cons, List.map_nil, List.length_cons, List.length_nil])))
    · have e := sel_no (p := fun i : Nat => fr t i) (n := j) b1
      replace h83 := h83.fls b1
      (repeat' (first | ((with_reducible first | apply sg | apply si | apply sq | apply sd) <;> intro hb <;> (try rw [hb]) <;> (try simp only [bq, bz, dtrue, dfalse] at hb) <;> (try simp only [within] at hb) <;> try simp only [go_sem]) | refine And.intro (by first | exact ⟨⟩ | omega | (simp only [I64]; omega)) ?_ | (with_reducible rw [vc_draw_eq]; first | (refine CV.draw (id := 16) sF13d_f37_16 mixed rfl (by kernel_rfl) ?_; delta sF13d_f37_16) | (refine CV.draw (id := 17) sF13d_f37_17 mixed rfl (by kernel_rfl) ?_; delta sF13d_f37_17)) | ((with_reducible first | refine vp h83 ?_ ?_ | refine dc h83 ?_ ?_); focus (first | exact ⟨rfl, .inl ⟨by first | rfl | (simp only [go_sem, hlt', encN, List.length_map, AV.pureL, AV.pure]; done), by first | (simp only [go_sem, hlt', encN, List.length_map, AV.pureL, AV.pure]; done) | rfl⟩⟩ | exact ⟨rfl, .inr ⟨rfl, by simp only [go_sem, hlt', encN, List.length_map]⟩⟩)) | ((with_reducible first | refine dp h83 ?_ ?_); focus (exact ⟨rfl, by first | rfl | (simp only [go_sem, hlt', encN, List.length_map, AV.pureL, AV.pure]; done), by first | (simp only [go_sem, hlt', encN, List.length_map, AV.pureL, AV.pure]; done) | rfl⟩)) | ((with_reducible first | refine ds h83 ?_ ?_); focus exact ⟨rfl, rfl⟩) | (simp only [go_sem, hlt', encN, List.length_map])))
      all_goals exact .base (by (first | exact wk_same (by simp only [go_sem, Int.natCast_add, cn, Int.cast_ofNat_Int, e]) | (refine wk_drop ?_ ?_ ?_ ?_ ?_ <;> simp only [go_sem, Int.natCast_add, cn, Int.cast_ofNat_Int, e])))
  · have hge' : ¬ (j : Int) < t.pl.length := by omega
    have : j = t.ts.length := by omega
    subst this
    generalize hF : sel (fun i : Nat => fr t i) t.ts.length = F at *
    have hFr : ∀ x, x ∈ F → 0 ≤ x ∧ x < t.ts.length := fun x hx => by
      rw [← hF] at hx
      obtain ⟨i, i1, rfl, _⟩ := (sel_mem _ _).1 hx
      omega
    (repeat' (first | ((with_reducible first | apply sg | apply si | apply sq | apply sd) <;> intro hb <;> (try rw [hb]) <;> (try simp only [bq, bz, dtrue, dfalse] at hb) <;> (try simp only [within] at hb) <;> try simp only [go_sem]) | refine And.intro (by first | exact ⟨⟩ | omega | (simp only [I64]; omega)) ?_ | (with_reducible rw [vc_draw_eq]; first | (refine CV.draw (id := 16) sF13d_f37_16 mixed rfl (by kernel_rfl) ?_; delta sF13d_f37_16) | (refine CV.draw (id := 17) sF13d_f37_17 mixed rfl (by kernel_rfl) ?_; delta sF13d_f37_17)) | ((with_reducible first | refine vp h84 ?_ ?_ | refine dc h84 ?_ ?_); focus (first | exact ⟨rfl, .inl ⟨by first | rfl | (simp only [go_sem, hge', List.length_map, AV.pureL, AV.pure]; done), by first | (simp only [go_sem, hge', List.length_map, AV.pureL, AV.pure]; done) | rfl⟩⟩ | exact ⟨rfl, .inr ⟨rfl, by simp only [go_sem, hge', List.length_map]⟩⟩)) | ((with_reducible first | refine dp h84 ?_ ?_); focus (exact ⟨rfl, by first | rfl | (simp only [go_sem, hge', List.length_map, AV.pureL, AV.pure]; done), by first | (simp only [go_sem, hge', List.length_map, AV.pureL, AV.pure]; done) | rfl⟩)) | ((with_reducible first | refine ds h84 ?_ ?_); focus exact ⟨rfl, rfl⟩) | (simp only [go_sem, hge', List.length_map])))
    refine vc_for (fun i => ⟨[(12, .int .i64 i), (11, .int .i64 (bI t (spE t) L i).2.2), (10, .int .i64 (bI t (spE t) L i).2.1), (9, .int .i64 (bI t (spE t) L i).1), (8, lLL L), (6, .row 1 F.length), (5, lN (pags t)), (3, .int .i64 0), (2, .nilS), (1, .lp 0 0)], [.box 28 (cT t) false, .row 3 1 (F.map encN) false]⟩) L.length (fun _ => True) (by (first | exact wk_same (by simp only [go_sem, Int.natCast_add, cn, Int.cast_ofNat_Int, bI]) | (refine wk_drop ?_ ?_ ?_ ?_ ?_ <;> simp only [go_sem, Int.natCast_add, cn, Int.cast_ofNat_Int, bI]))) trivial ?_
    intro i hi _
    rcases Nat.lt_or_ge i L.length with hil | hig
    · have hil' : (i : Int) < L.length := by omega
      obtain ⟨l, hl⟩ := get_of hil
      have hll : (L.map encL)[i]? = some [lN l] := by rw [List.getElem?_map, hl]; rfl
      obtain ⟨q1, q2⟩ := hmem l (List.mem_of_getElem? hl)
      have h85 := c85 t hv (pags t) F l hFr q1.1 (fun k hk => (q1.2 k hk).1) hpg (by omega)
      have hE : (∀ p, p ∈ pags t → i1 l (ofP t p F)) ↔ spE t l := by rw [← hF]; exact Iff.rfl
      have h41 := c41 t hv l q1.1
      have hg : L.getD i [] = l := by rw [List.getD_eq_getElem?_getD, hl]; rfl
      have hb : bI t (spE t) L (i + 1) = if spE t l ∧ ((bI t (spE t) L i).1 < 0 ∨ lexlt (cst t l) (bI t (spE t) L i).2) then ((i : Int), cst t l) else bI t (spE t) L i := by rw [bI, hg]
      generalize bI t (spE t) L i = B at hb ⊢
      obtain ⟨B1, B2, B3⟩ := B
      simp only at hb ⊢
      by_cases b1 : spE t l
      · replace h85 := h85.tru (hE.2 b1)
        by_cases b2 : B1 < 0
        · have e : bI t (spE t) L (i + 1) = ((i : Int), cst t l) := by rw [hb, if_pos ⟨b1, .inl b2⟩]
          (repeat' (first | ((with_reducible first | apply sg | apply si | apply sq | apply sd) <;> intro hb <;> (try rw [hb]) <;> (try simp only [bq, bz, dtrue, dfalse] at hb) <;> (try simp only [within] at hb) <;> try simp only [go_sem]) | refine And.intro (by first | exact ⟨⟩ | omega | (simp only [I64]; omega)) ?_ | (with_reducible rw [vc_draw_eq]; first | (refine CV.draw (id := 16) sF13d_f37_16 mixed rfl (by kernel_rfl) ?_; delta sF13d_f37_16) | (refine CV.draw (id := 17) sF13d_f37_17 mixed rfl (by kernel_rfl) ?_; delta sF13d_f37_17)) | ((with_reducible first | refine vp h85 ?_ ?_ | refine dc h85 ?_ ?_ | refine vp h41 ?_ ?_ | refine dc h41 ?_ ?_); focus (first | exact ⟨rfl, .inl ⟨by first | rfl | (simp only [go_sem, hil', hll, encN, b2, List.length_map, AV.pureL, AV.pure]; done), by first | (simp only [go_sem, hil', hll, encN, b2, List.length_map, AV.pureL, AV.pure]; done) | rfl⟩⟩ | exact ⟨rfl, .inr ⟨rfl, by simp only [go_sem, hil', hll, encN, b2, List.length_map]⟩⟩)) | ((with_reducible first | refine dp h85 ?_ ?_ | refine dp h41 ?_ ?_); focus (exact ⟨rfl, by first | rfl | (simp only [go_sem, hil', hll, encN, b2, List.length_map, AV.pureL, AV.pure]; done), by first | (simp only [go_sem, hil', hll, encN, b2, List.length_map, AV.pureL, AV.pure]; done) | rfl⟩)) | ((with_reducible first | refine ds h85 ?_ ?_ | refine ds h41 ?_ ?_); focus exact ⟨rfl, rfl⟩) | (simp only [go_sem, hil', hll, encN, b2, List.length_map])))
          all_goals exact (by (first | exact wk_same (by simp only [go_sem, Int.natCast_add, cn, Int.cast_ofNat_Int, e]) | (refine wk_drop ?_ ?_ ?_ ?_ ?_ <;> simp only [go_sem, Int.natCast_add, cn, Int.cast_ofNat_Int, e])))
        · by_cases b3 : (cst t l).1 < B2
          · have e : bI t (spE t) L (i + 1) = ((i : Int), cst t l) := by rw [hb, if_pos ⟨b1, .inr (.inl b3)⟩]
            (repeat' (first | ((with_reducible first | apply sg | apply si | apply sq | apply sd) <;> intro hb <;> (try rw [hb]) <;> (try simp only [bq, bz, dtrue, dfalse] at hb) <;> (try simp only [within] at hb) <;> try simp only [go_sem]) | refine And.intro (by first | exact ⟨⟩ | omega | (simp only [I64]; omega)) ?_ | (with_reducible rw [vc_draw_eq]; first | (refine CV.draw (id := 16) sF13d_f37_16 mixed rfl (by kernel_rfl) ?_; delta sF13d_f37_16) | (refine CV.draw (id := 17) sF13d_f37_17 mixed rfl (by kernel_rfl) ?_; delta sF13d_f37_17)) | ((with_reducible first | refine vp h85 ?_ ?_ | refine dc h85 ?_ ?_ | refine vp h41 ?_ ?_ | refine dc h41 ?_ ?_); focus (first | exact ⟨rfl, .inl ⟨by first | rfl | (simp only [go_sem, hil', hll, encN, b2, b3, List.length_map, AV.pureL, AV.pure]; done), by first | (simp only [go_sem, hil', hll, encN, b2, b3, List.length_map, AV.pureL, AV.pure]; done) | rfl⟩⟩ | exact ⟨rfl, .inr ⟨rfl, by simp only [go_sem, hil', hll, encN, b2, b3, List.length_map]⟩⟩)) | ((with_reducible first | refine dp h85 ?_ ?_ | refine dp h41 ?_ ?_); focus (exact ⟨rfl, by first | rfl | (simp only [go_sem, hil', hll, encN, b2, b3, List.length_map, AV.pureL, AV.pure]; done), by first | (simp only [go_sem, hil', hll, encN, b2, b3, List.length_map, AV.pureL, AV.pure]; done) | rfl⟩)) | ((with_reducible first | refine ds h85 ?_ ?_ | refine ds h41 ?_ ?_); focus exact ⟨rfl, rfl⟩) | (simp only [go_sem, hil', hll, encN, b2, b3, List.length_map])))
            all_goals exact (by (first | exact wk_same (by simp only [go_sem, Int.natCast_add, cn, Int.cast_ofNat_Int, e]) | (refine wk_drop ?_ ?_ ?_ ?_ ?_ <;> simp only [go_sem, Int.natCast_add, cn, Int.cast_ofNat_Int, e])))
          · by_cases b4 : (cst t l).1 = B2
            · have b4' := eq_true b4
              by_cases b5 : (cst t l).2 < B3
              · have e : bI t (spE t) L (i + 1) = ((i : Int), cst t l) := by rw [hb, if_pos ⟨b1, .inr (.inr ⟨b4, b5⟩)⟩]
                (repeat' (first | ((with_reducible first | apply sg | apply si | apply sq | apply sd) <;> intro hb <;> (try rw [hb]) <;> (try simp only [bq, bz, dtrue, dfalse] at hb) <;> (try simp only [within] at hb) <;> try simp only [go_sem]) | refine And.intro (by first | exact ⟨⟩ | omega | (simp only [I64]; omega)) ?_ | (with_reducible rw [vc_draw_eq]; first | (refine CV.draw (id := 16) sF13d_f37_16 mixed rfl (by kernel_rfl) ?_; delta sF13d_f37_16) | (refine CV.draw (id := 17) sF13d_f37_17 mixed rfl (by kernel_rfl) ?_; delta sF13d_f37_17)) | ((with_reducible first | refine vp h85 ?_ ?_ | refine dc h85 ?_ ?_ | refine vp h41 ?_ ?_ | refine dc h41 ?_ ?_); focus (first | exact ⟨rfl, .inl ⟨by first | rfl | (simp only [go_sem, hil', hll, encN, b2, b3, b4', b5, List.length_map, AV.pureL, AV.pure]; done), by first | (simp only [go_sem, hil', hll, encN, b2, b3, b4', b5, List.length_map, AV.pureL, AV.pure]; done) | rfl⟩⟩ | exact ⟨rfl, .inr ⟨rfl, by simp only [go_sem, hil', hll, encN, b2, b3, b4', b5, List.length_map]⟩⟩)) | ((with_reducible first | refine dp h85 ?_ ?_ | refine dp h41 ?_ ?_); focus (exact ⟨rfl, by first | rfl | (simp only [go_sem, hil', hll, encN, b2, b3, b4', b5, List.length_map, AV.pureL, AV.pure]; done), by first | (simp only [go_sem, hil', hll, encN, b2, b3, b4', b5, List.length_map, AV.pureL, AV.pure]; done) | rfl⟩)) | ((with_reducible first | refine ds h85 ?_ ?_ | refine ds h41 ?_ ?_); focus exact ⟨rfl, rfl⟩) | (simp only [go_sem, hil', hll, encN, b2, b3, b4', b5, List.length_map])))
                all_goals exact (by (first | exact wk_same (by simp only [go_sem, Int.natCast_add, cn, Int.cast_ofNat_Int, e]) | (refine wk_drop ?_ ?_ ?_ ?_ ?_ <;> simp only [go_sem, Int.natCast_add, cn, Int.cast_ofNat_Int, e])))
              · have e : bI t (spE t) L (i + 1) = (B1, B2, B3) := by
                  rw [hb, if_neg]
                  rintro ⟨_, h | h | h⟩
                  · exact b2 h
                  · exact b3 h
                  · exact b5 h.2
                (repeat' (first | ((with_reducible first | apply sg | apply si | apply sq | apply sd) <;> intro hb <;> (try rw [hb]) <;> (try simp only [bq, bz, dtrue, dfalse] at hb) <;> (try simp only [within] at hb) <;> try simp only [go_sem]) | refine And.intro (by first | exact ⟨⟩ | omega | (simp only [I64]; omega)) ?_ | (with_reducible rw [vc_draw_eq]; first | (refine CV.draw (id := 16) sF13d_f37_16 mixed rfl (by kernel_rfl) ?_; delta sF13d_f37_16) | (refine CV.draw (id := 17) sF13d_f37_17 mixed rfl (by kernel_rfl) ?_; delta sF13d_f37_17)) | ((with_reducible first | refine vp h85 ?_ ?_ | refine dc h85 ?_ ?_ | refine vp h41 ?_ ?_ | refine dc h41 ?_ ?_); focus (first | exact ⟨rfl, .inl ⟨by first | rfl | (simp only [go_sem, hil', hll, encN, b2, b3, b4', b5, List.length_map, AV.pureL, AV.pure]; done), by first | (simp only [go_sem, hil', hll, encN, b2, b3, b4', b5, List.length_map, AV.pureL, AV.pure]; done) | rfl⟩⟩ | exact ⟨rfl, .inr ⟨rfl, by simp only [go_sem, hil', hll, encN, b2, b3, b4', b5, List.length_map]⟩⟩)) | ((with_reducible first | refine dp h85 ?_ ?_ | refine dp h41 ?_ ?_); focus (exact ⟨rfl, by first | rfl | (simp only [go_sem, hil', hll, encN, b2, b3, b4', b5, List.length_map, AV.pureL, AV.pure]; done), by first | (simp only [go_sem, hil', hll, encN, b2, b3, b4', b5, List.length_map, AV.pureL, AV.pure]; done) | rfl⟩)) | ((with_reducible first | refine ds h85 ?_ ?_ | refine ds h41 ?_ ?_); focus exact ⟨rfl, rfl⟩) | (simp only [go_sem, hil', hll, encN, b2, b3, b4', b5, List.length_map])))
                all_goals exact (by (first | exact wk_same (by simp only [go_sem, Int.natCast_add, cn, Int.cast_ofNat_Int, e]) | (refine wk_drop ?_ ?_ ?_ ?_ ?_ <;> simp only [go_sem, Int.natCast_add, cn, Int.cast_ofNat_Int, e])))
            · have e : bI t (spE t) L (i + 1) = (B1, B2, B3) := by
                rw [hb, if_neg]
                rintro ⟨_, h | h | h⟩
                · exact b2 h
                · exact b3 h
                · exact b4 h.1
              (repeat' (first | ((with_reducible first | apply sg | apply si | apply sq | apply sd) <;> intro hb <;> (try rw [hb]) <;> (try simp only [bq, bz, dtrue, dfalse] at hb) <;> (try simp only [within] at hb) <;> try simp only [go_sem]) | refine And.intro (by first | exact ⟨⟩ | omega | (simp only [I64]; omega)) ?_ | (with_reducible rw [vc_draw_eq]; first | (refine CV.draw (id := 16) sF13d_f37_16 mixed rfl (by kernel_rfl) ?_; delta sF13d_f37_16) | (refine CV.draw (id := 17) sF13d_f37_17 mixed rfl (by kernel_rfl) ?_; delta sF13d_f37_17)) | ((with_reducible first | refine vp h85 ?_ ?_ | refine dc h85 ?_ ?_ | refine vp h41 ?_ ?_ | refine dc h41 ?_ ?_); focus (first | exact ⟨rfl, .inl ⟨by first | rfl | (simp only [go_sem, hil', hll, encN, b2, b3, b4, List.length_map, AV.pureL, AV.pure]; done), by first | (simp only [go_sem, hil', hll, encN, b2, b3, b4, List.length_map, AV.pureL, AV.pure]; done) | rfl⟩⟩ | exact ⟨rfl, .inr ⟨rfl, by simp only [go_sem, hil', hll, encN, b2, b3, b4, List.length_map]⟩⟩)) | ((with_reducible first | refine dp h85 ?_ ?_ | refine dp h41 ?_ ?_); focus (exact ⟨rfl, by first | rfl | (simp only [go_sem, hil', hll, encN, b2, b3, b4, List.length_map, AV.pureL, AV.pure]; done), by first | (simp only [go_sem, hil', hll, encN, b2, b3, b4, List.length_map, AV.pureL, AV.pure]; done) | rfl⟩)) | ((with_reducible first | refine ds h85 ?_ ?_ | refine ds h41 ?_ ?_); focus exact ⟨rfl, rfl⟩) | (simp only [go_sem, hil', hll, encN, b2, b3, b4, List.length_map])))
              all_goals exact (by (first | exact wk_same (by simp only [go_sem, Int.natCast_add, cn, Int.cast_ofNat_Int, e]) | (refine wk_drop ?_ ?_ ?_ ?_ ?_ <;> simp only [go_sem, Int.natCast_add, cn, Int.cast_ofNat_Int, e])))
      · replace h85 := h85.fls fun h => b1 (hE.1 h)
        have e : bI t (spE t) L (i + 1) = (B1, B2, B3) := by rw [hb, if_neg fun h => b1 h.1]
        (repeat' (first | ((with_reducible first | apply sg | apply si | apply sq | apply sd) <;> intro hb <;> (try rw [hb]) <;> (try simp only [bq, bz, dtrue, dfalse] at hb) <;> (try simp only [within] at hb) <;> try simp only [go_sem]) | refine And.intro (by first | exact ⟨⟩ | omega | (simp only [I64]; omega)) ?_ | (with_reducible rw [vc_draw_eq]; first | (refine CV.draw (id := 16) sF13d_f37_16 mixed rfl (by kernel_rfl) ?_; delta sF13d_f37_16) | (refine CV.draw (id := 17) sF13d_f37_17 mixed rfl (by kernel_rfl) ?_; delta sF13d_f37_17)) | ((with_reducible first | refine vp h85 ?_ ?_ | refine dc h85 ?_ ?_ | refine vp h41 ?_ ?_ | refine dc h41 ?_ ?_); focus (first | exact ⟨rfl, .inl ⟨by first | rfl | (simp only [go_sem, hil', hll, encN, List.length_map, AV.pureL, AV.pure]; done), by first | (simp only [go_sem, hil', hll, encN, List.length_map, AV.pureL, AV.pure]; done) | rfl⟩⟩ | exact ⟨rfl, .inr ⟨rfl, by simp only [go_sem, hil', hll, encN, List.length_map]⟩⟩)) | ((with_reducible first | refine dp h85 ?_ ?_ | refine dp h41 ?_ ?_); focus (exact ⟨rfl, by first | rfl | (simp only [go_sem, hil', hll, encN, List.length_map, AV.pureL, AV.pure]; done), by first | (simp only [go_sem, hil', hll, encN, List.length_map, AV.pureL, AV.pure]; done) | rfl⟩)) | ((with_reducible first | refine ds h85 ?_ ?_ | refine ds h41 ?_ ?_); focus exact ⟨rfl, rfl⟩) | (simp only [go_sem, hil', hll, encN, List.length_map])))
        all_goals exact (by (first | exact wk_same (by simp only [go_sem, Int.natCast_add, cn, Int.cast_ofNat_Int, e]) | (refine wk_drop ?_ ?_ ?_ ?_ ?_ <;> simp only [go_sem, Int.natCast_add, cn, Int.cast_ofNat_Int, e])))
    · have hig' : ¬ (i : Int) < L.length := by omega
      have : i = L.length := by omega
      subst this
      rcases bI_rel (t := t) (E := spE t) (L := L) L.length (Nat.le_refl _) with ⟨h1, h2⟩ | ⟨k, l, h1, h2, h3, h4⟩
      · rw [List.take_length, hrem] at h1
        rw [h1, h2]
        (repeat' (first | ((with_reducible first | apply sg | apply si | apply sq | apply sd) <;> intro hb <;> (try rw [hb]) <;> (try simp only [bq, bz, dtrue, dfalse] at hb) <;> (try simp only [within] at hb) <;> try simp only [go_sem]) | refine And.intro (by first | exact ⟨⟩ | omega | (simp only [I64]; omega)) ?_ | (with_reducible rw [vc_draw_eq]; first | (refine CV.draw (id := 16) sF13d_f37_16 mixed rfl (by kernel_rfl) ?_; delta sF13d_f37_16) | (refine CV.draw (id := 17) sF13d_f37_17 mixed rfl (by kernel_rfl) ?_; delta sF13d_f37_17)) | (simp only [go_sem, hig', lstS_n, eS_n, List.length_map])))
        all_goals trace_state
      · rw [List.take_length, hrem] at h3
        rw [h3, h4]
        have hk0 : ¬ (k : Int) < 0 := by omega
        have hk1 : (k : Int) < L.length := by omega
        have hll : (L.map encL)[k]? = some [lN l] := by rw [List.getElem?_map, h2]; rfl
        (repeat' (first | ((with_reducible first | apply sg | apply si | apply sq | apply sd) <;> intro hb <;> (try rw [hb]) <;> (try simp only [bq, bz, dtrue, dfalse] at hb) <;> (try simp only [within] at hb) <;> try simp only [go_sem]) | refine And.intro (by first | exact ⟨⟩ | omega | (simp only [I64]; omega)) ?_ | (with_reducible rw [vc_draw_eq]; first | (refine CV.draw (id := 16) sF13d_f37_16 mixed rfl (by kernel_rfl) ?_; delta sF13d_f37_16) | (refine CV.draw (id := 17) sF13d_f37_17 mixed rfl (by kernel_rfl) ?_; delta sF13d_f37_17)) | (simp only [go_sem, hig', hk0, hk1, hll, lstS_s, eS_s, List.length_map])))
        all_goals omega
theorem c35y (t : Town) (hv : validT t) (h6 : t.ts.length ≤ 6) : PC Tryd.prog 35 [hF t] (.tup [.int .i64 (pS (remT t)), .int .i64 (eS (remT t))]) := by
  have h37 := c37y t hv h6
  rcases e : remT t with _ | x
  · rw [e] at h37
    simp only [lstS_n, eS_n] at h37
    refine PC.body Tryd.func35 (by kernel_rfl) rfl (by simp [Tryd.f35]) rfl ?_
    simp only [Tryd.f35]
    intro hlen
    simp only [go_sem, List.length_map, and_true, true_and] at hlen
    refine CV.run ?_
    (repeat' (first | ((with_reducible first | apply sg | apply si | apply sq | apply sd) <;> intro hb <;> (try rw [hb]) <;> (try simp only [bq, bz, dtrue, dfalse] at hb) <;> (try simp only [within] at hb) <;> try simp only [go_sem]) | refine And.intro (by first | exact ⟨⟩ | omega | (simp only [I64]; omega)) ?_ | ((with_reducible first | refine vp h37 ?_ ?_); focus (first | exact ⟨rfl, .inl ⟨by first | rfl | (simp only [go_sem, pS_n, eS_n, AV.pureL, AV.pure]; done), by first | (simp only [go_sem, pS_n, eS_n, AV.pureL, AV.pure]; done) | rfl⟩⟩ | exact ⟨rfl, .inr ⟨rfl, by simp only [go_sem, pS_n, eS_n]⟩⟩)) | (simp only [go_sem, pS_n, eS_n])))
  · obtain ⟨x1, x2, _⟩ := rem_bnd hv e
    have h41 := c41 t hv x.1 x2.1
    rw [← x1] at h41
    rw [e] at h37
    simp only [lstS_s, eS_s] at h37
    refine PC.body Tryd.func35 (by kernel_rfl) rfl (by simp [Tryd.f35]) rfl ?_
    simp only [Tryd.f35]
    intro hlen
    simp only [go_sem, List.length_map, and_true, true_and] at hlen
    refine CV.run ?_
    (repeat' (first | ((with_reducible first | apply sg | apply si | apply sq | apply sd) <;> intro hb <;> (try rw [hb]) <;> (try simp only [bq, bz, dtrue, dfalse] at hb) <;> (try simp only [within] at hb) <;> try simp only [go_sem]) | refine And.intro (by first | exact ⟨⟩ | omega | (simp only [I64]; omega)) ?_ | ((with_reducible first | refine vp h37 ?_ ?_ | refine vp h41 ?_ ?_); focus (first | exact ⟨rfl, .inl ⟨by first | rfl | (simp only [go_sem, pS_s, eS_s, AV.pureL, AV.pure]; done), by first | (simp only [go_sem, pS_s, eS_s, AV.pureL, AV.pure]; done) | rfl⟩⟩ | exact ⟨rfl, .inr ⟨rfl, by simp only [go_sem, pS_s, eS_s]⟩⟩)) | (simp only [go_sem, pS_s, eS_s])))
set_option maxHeartbeats 1000000 in
theorem c5 (t : Town) : PC Tryd.prog 5 [hF t] (.bool true) := by
  have h33 := c33 t
  have h17 := c17
  by_cases h0 : farT t
  case pos =>
    replace h33 := h33.tru h0
    refine PC.body Tryd.func5 (by kernel_rfl) rfl (by simp [Tryd.f5]) rfl ?_
    simp only [Tryd.f5]
    intro hlen
    simp only [go_sem, List.length_map, and_true, true_and] at hlen
    (repeat' (first | (with_reducible refine CV.same ?_; (try subst hY); (first | refine CV.gcc 12 fun Y hY => ?_ | refine CV.gc 12 fun Y hY => ?_ | skip); refine CV.run ?_) | ((with_reducible first | apply sg | apply si | apply sq | apply sd) <;> intro hb <;> (try rw [hb]) <;> (try simp only [bq, bz, dtrue, dfalse] at hb) <;> (try simp only [within] at hb) <;> try simp only [go_sem]) | refine And.intro (by first | exact ⟨⟩ | omega | (simp only [I64]; omega)) ?_ | ((with_reducible first | refine vp h33 ?_ ?_ | refine vp h17 ?_ ?_); focus (first | exact ⟨rfl, .inl ⟨by first | rfl | (simp only [go_sem, AV.pureL, AV.pure]; done), by first | (simp only [go_sem, AV.pureL, AV.pure]; done) | rfl⟩⟩ | exact ⟨rfl, .inr ⟨rfl, by simp only [go_sem]⟩⟩)) | (simp only [go_sem])))
  replace h33 := h33.fls h0
  have nh := not_huge (fun h => h0 (.inl h))
  have h19 := c19 t (by omega) (by omega) (by omega) (by omega) (by omega)
  have h32 := c32 t
  by_cases hv : validT t
  · have h6 : t.ts.length ≤ 6 := by
      have := hv.lp
      apply Classical.byContradiction
      intro h; exact h0 (.inr ⟨by omega, hv⟩)
    have a1 := c34y t hv
    have a2 := c35y t hv h6
    have a3 := c36y t hv
    have a4 := c37y t hv h6
    generalize remT t = Z at a1 a2 a3 a4
    rcases Z with _ | x
    · simp only [lstS_n, eS_n, pS_n] at a1 a2 a3 a4
      have z := c27nn
      refine PC.body Tryd.func5 (by kernel_rfl) rfl (by simp [Tryd.f5]) rfl ?_
      simp only [Tryd.f5]
      intro hlen
      simp only [go_sem, List.length_map, and_true, true_and] at hlen
      (repeat' (first | (with_reducible refine CV.same ?_; (try subst hY); (first | refine CV.gcc 12 fun Y hY => ?_ | refine CV.gc 12 fun Y hY => ?_ | skip); refine CV.run ?_) | ((with_reducible first | apply sg | apply si | apply sq | apply sd) <;> intro hb <;> (try rw [hb]) <;> (try simp only [bq, bz, dtrue, dfalse] at hb) <;> (try simp only [within] at hb) <;> try simp only [go_sem]) | refine And.intro (by first | exact ⟨⟩ | omega | (simp only [I64]; omega)) ?_ | ((with_reducible first | refine vp h33 ?_ ?_ | refine vp h19 ?_ ?_ | refine vp h32 ?_ ?_ | refine vp a1 ?_ ?_ | refine vp a2 ?_ ?_ | refine vp a3 ?_ ?_ | refine vp a4 ?_ ?_ | refine vp z ?_ ?_ | refine vp h17 ?_ ?_); focus (first | exact ⟨rfl, .inl ⟨by first | rfl | (simp only [go_sem, AV.pureL, AV.pure]; done), by first | (simp only [go_sem, AV.pureL, AV.pure]; done) | rfl⟩⟩ | exact ⟨rfl, .inr ⟨rfl, by simp only [go_sem]⟩⟩)) | (simp only [go_sem])))
    · simp only [lstS_s, eS_s, pS_s] at a1 a2 a3 a4
      have z := c27s x.1
      refine PC.body Tryd.func5 (by kernel_rfl) rfl (by simp [Tryd.f5]) rfl ?_
      simp only [Tryd.f5]
      intro hlen
      simp only [go_sem, List.length_map, and_true, true_and] at hlen
      (repeat' (first | (with_reducible refine CV.same ?_; (try subst hY); (first | refine CV.gcc 12 fun Y hY => ?_ | refine CV.gc 12 fun Y hY => ?_ | skip); refine CV.run ?_) | ((with_reducible first | apply sg | apply si | apply sq | apply sd) <;> intro hb <;> (try rw [hb]) <;> (try simp only [bq, bz, dtrue, dfalse] at hb) <;> (try simp only [within] at hb) <;> try simp only [go_sem]) | refine And.intro (by first | exact ⟨⟩ | omega | (simp only [I64]; omega)) ?_ | ((with_reducible first | refine vp h33 ?_ ?_ | refine vp h19 ?_ ?_ | refine vp h32 ?_ ?_ | refine vp a1 ?_ ?_ | refine vp a2 ?_ ?_ | refine vp a3 ?_ ?_ | refine vp a4 ?_ ?_ | refine vp z ?_ ?_ | refine vp h17 ?_ ?_); focus (first | exact ⟨rfl, .inl ⟨by first | rfl | (simp only [go_sem, AV.pureL, AV.pure]; done), by first | (simp only [go_sem, AV.pureL, AV.pure]; done) | rfl⟩⟩ | exact ⟨rfl, .inr ⟨rfl, by simp only [go_sem]⟩⟩)) | (simp only [go_sem])))
  · have a1 := c34n t hv
    have a2 := c35n t (by omega) hv
    have a3 := c36n t hv
    have a4 := c37n t (by omega) hv
    have z := c27nn
    refine PC.body Tryd.func5 (by kernel_rfl) rfl (by simp [Tryd.f5]) rfl ?_
    simp only [Tryd.f5]
    intro hlen
    simp only [go_sem, List.length_map, and_true, true_and] at hlen
    (repeat' (first | (with_reducible refine CV.same ?_; (try subst hY); (first | refine CV.gcc 12 fun Y hY => ?_ | refine CV.gc 12 fun Y hY => ?_ | skip); refine CV.run ?_) | ((with_reducible first | apply sg | apply si | apply sq | apply sd) <;> intro hb <;> (try rw [hb]) <;> (try simp only [bq, bz, dtrue, dfalse] at hb) <;> (try simp only [within] at hb) <;> try simp only [go_sem]) | refine And.intro (by first | exact ⟨⟩ | omega | (simp only [I64]; omega)) ?_ | ((with_reducible first | refine vp h33 ?_ ?_ | refine vp h19 ?_ ?_ | refine vp h32 ?_ ?_ | refine vp a1 ?_ ?_ | refine vp a2 ?_ ?_ | refine vp a3 ?_ ?_ | refine vp a4 ?_ ?_ | refine vp z ?_ ?_ | refine vp h17 ?_ ?_); focus (first | exact ⟨rfl, .inl ⟨by first | rfl | (simp only [go_sem, AV.pureL, AV.pure]; done), by first | (simp only [go_sem, AV.pureL, AV.pure]; done) | rfl⟩⟩ | exact ⟨rfl, .inr ⟨rfl, by simp only [go_sem]⟩⟩)) | (simp only [go_sem])))
end Go.Proofs.YtjlopclpofbgbaaDoor

