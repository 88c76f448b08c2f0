/- Contracts of functions of the given program, without a condition beyond those that each theorem states; they lead to the given statement. -/
import Derived.Test.YtjlopclpofbgbaaDoorF13a
import Derived.Test.YtjlopclpofbgbaaDoorF12a
import Derived.Test.YtjlopclpofbgbaaDoorF11d
import Derived.Test.YtjlopclpofbgbaaDoorF11bxd
import Derived.Test.YtjlopclpofbgbaaDoorF11b
import Derived.Test.YtjlopclpofbgbaaDoorF11axd
import Derived.Test.YtjlopclpofbgbaaDoorF11a
import Derived.Test.YtjlopclpofbgbaaDoorF10v
import Derived.Test.YtjlopclpofbgbaaDoorF10s
import Derived.Test.YtjlopclpofbgbaaDoorF10r
import Derived.Test.YtjlopclpofbgbaaDoorF10qxd
import Derived.Test.YtjlopclpofbgbaaDoorF10q
import Derived.Test.YtjlopclpofbgbaaDoorF10p
import Derived.Test.YtjlopclpofbgbaaDoorF10o
import Derived.Test.YtjlopclpofbgbaaDoorF10n
import Derived.Test.YtjlopclpofbgbaaDoorF10m
import Derived.Test.YtjlopclpofbgbaaDoorF10l
import Derived.Test.YtjlopclpofbgbaaDoorF10kxd
import Derived.Test.YtjlopclpofbgbaaDoorF10k
import Derived.Test.YtjlopclpofbgbaaDoorF10jxd
import Derived.Test.YtjlopclpofbgbaaDoorF10j
import Derived.Test.YtjlopclpofbgbaaDoorF10i
import Derived.Test.YtjlopclpofbgbaaDoorF10h
import Derived.Test.YtjlopclpofbgbaaDoorF10g
import Derived.Test.YtjlopclpofbgbaaDoorF10f
import Derived.Test.YtjlopclpofbgbaaDoorF10e
import Derived.Test.YtjlopclpofbgbaaDoorF10d
import Derived.Test.YtjlopclpofbgbaaDoorF10c
import Derived.Test.YtjlopclpofbgbaaDoorF10b
import Derived.Test.YtjlopclpofbgbaaDoorF10a
import Derived.Test.YtjlopclpofbgbaaDoorTyp
import Derived.Test.YtjlopclpofbgbaaDoorFlB
import Derived.Test.YtjlopclpofbgbaaDoorFlA
import Derived.WalkKit
import Derived.OwnWalkIn
import Derived.OrdersIn
import Derived.LoopNIn
import Derived.LoopIn
import Derived.RangeFuncNested
import Derived.RangeFuncBound
import Derived.RangeFuncLeaves
import Derived.Maps.OwnSet
import Derived.Laws.Tables
import Derived.Great.BuildSlice
import Derived.Maps.Views
import Derived.WalkSpells
import Derived.Carry
import Derived.Test.YtjlopclpofbgbaaDoorProg
import Derived.Test.YtjlopclpofbgbaaDoorF10u
import Derived.Test.YtjlopclpofbgbaaDoorF11c
import Derived.Test.YtjlopclpofbgbaaDoorF10z
import Derived.Test.YtjlopclpofbgbaaDoorF10y
import Derived.Test.YtjlopclpofbgbaaDoorF10t
import Derived.Test.YtjlopclpofbgbaaDoorF10w
import Derived.Test.YtjlopclpofbgbaaDoorF10x
set_option linter.unusedSimpArgs false
set_option linter.unusedVariables false
set_option maxRecDepth 100000
namespace Go.Proofs.YtjlopclpofbgbaaDoor
open Go Go.Fl
open Classical
def sF13c_f84_11 : List (Nat × Nat) := [(0, 2), (0, 2), (0, 0), (0, 0), (0, 0), (0, 1), (0, 1), (99, 0), (2, 2), (0, 0), (3, 3)]
def encL (l : List Int) : List AV := [lN l]
theorem pureLL (L : List (List Int)) : pureE (L.map encL) = True := pureE_map fun _ => rfl
theorem sub_mapL {b n : Nat} {v : AV} {l : List (List Int)} : List.map (subL b n v) (List.map encL l) = List.map encL l := by
  rw [List.map_map]; exact List.map_congr_left fun a _ => by simp [encL, subL, subV]
theorem shift_mapL {n : Nat} {l : List (List Int)} : List.map (shiftL n) (List.map encL l) = List.map encL l := by
  rw [List.map_map]; exact List.map_congr_left fun a _ => by simp [encL, shiftL, shiftV]
theorem sub_encL {b n : Nat} {v : AV} {l : List Int} : subL b n v (encL l) = encL l := by simp [encL, subL, subV]
attribute [go_sem] sub_encL pureLL sub_mapL shift_mapL
abbrev lLL (L : List (List Int)) : AV := .lst false 1 (L.map encL)
noncomputable def carR (t : Town) : Nat → List Int → List (List Int)
  | 0, pre => if roomy t pre then [pre] else []
  | d + 1, pre => (List.range t.rm.length).flatMap fun (b : Nat) => if (b : Int) = gv t.pl pre.length ∨ there t pre.length then carR t d (pre ++ [(b : Int)]) else []
noncomputable def carJ (t : Town) (d : Nat) (pre : List Int) (j : Nat) : List (List Int) := (List.range j).flatMap fun (b : Nat) => if (b : Int) = gv t.pl pre.length ∨ there t pre.length then carR t d (pre ++ [(b : Int)]) else []
theorem carJ_zero {t : Town} {d : Nat} {pre : List Int} : carJ t d pre 0 = [] := rfl
theorem carJ_yes {t : Town} {d : Nat} {pre : List Int} {j : Nat} (h : (j : Int) = gv t.pl pre.length ∨ there t pre.length) : carJ t d pre (j + 1) = carJ t d pre j ++ carR t d (pre ++ [(j : Int)]) := by
  simp only [carJ, List.range_succ, List.flatMap_append, List.flatMap_cons, List.flatMap_nil, List.append_nil, if_pos h]
theorem carJ_no {t : Town} {d : Nat} {pre : List Int} {j : Nat} (h : ¬ ((j : Int) = gv t.pl pre.length ∨ there t pre.length)) : carJ t d pre (j + 1) = carJ t d pre j := by
  simp only [carJ, List.range_succ, List.flatMap_append, List.flatMap_cons, List.flatMap_nil, List.append_nil, if_neg h]
theorem carR_succ {t : Town} {d : Nat} {pre : List Int} : carR t (d + 1) pre = carJ t d pre t.rm.length := rfl
theorem carR_cars {t : Town} : ∀ (d : Nat) (pre : List Int), carR t d pre = (cars t d pre).filter fun l => decide (roomy t l)
  | 0, pre => by
    simp only [carR, cars]
    by_cases h : roomy t pre
    · rw [if_pos h]; simp [h]
    · rw [if_neg h]; simp [h]
  | d + 1, pre => by
    simp only [carR, cars]
    rw [List.filter_flatMap]
    congr 1
    funext b
    split
    · exact carR_cars d _
    · rfl
theorem carR_len {t : Town} (h3 : t.rm.length ≤ 3) : ∀ (d : Nat) (pre : List Int), (carR t d pre).length ≤ 3 ^ d ∧ ∀ j, j ≤ 3 → (carJ t d pre j).length ≤ j * 3 ^ d := fun d => by
  induction d with
  | zero =>
    intro pre
    have h0 : ∀ p, (carR t 0 p).length ≤ 3 ^ 0 := fun p => by simp only [carR]; split <;> simp
    refine ⟨h0 pre, fun j => ?_⟩
    induction j with
    | zero => intro _; simp [carJ_zero]
    | succ j ih =>
      intro hj
      have ih := ih (by omega)
      by_cases h : (j : Int) = gv t.pl pre.length ∨ there t pre.length
      · rw [carJ_yes h, List.length_append]
        have := h0 (pre ++ [(j : Int)])
        rw [Nat.succ_mul]; omega
      · rw [carJ_no h, Nat.succ_mul]; exact Nat.le_trans ih (Nat.le_add_right _ _)
  | succ d ihd =>
    intro pre
    have h0 : ∀ p, (carR t (d + 1) p).length ≤ 3 ^ (d + 1) := fun p => by
      rw [carR_succ]
      have := (ihd p).2 t.rm.length h3
      have h2 : t.rm.length * 3 ^ d ≤ 3 * 3 ^ d := Nat.mul_le_mul_right _ h3
      rw [Nat.pow_succ]; omega
    refine ⟨h0 pre, fun j => ?_⟩
    induction j with
    | zero => intro _; simp [carJ_zero]
    | succ j ih =>
      intro hj
      have ih := ih (by omega)
      by_cases h : (j : Int) = gv t.pl pre.length ∨ there t pre.length
      · rw [carJ_yes h, List.length_append]
        have := h0 (pre ++ [(j : Int)])
        rw [Nat.succ_mul]; omega
      · rw [carJ_no h, Nat.succ_mul]; exact Nat.le_trans ih (Nat.le_add_right _ _)
theorem pow6 {d : Nat} (h : d ≤ 6) : 3 ^ d ≤ 729 := Nat.pow_le_pow_right (n := 3) (by omega) h
set_option maxHeartbeats 4000000 in
theorem c84 (t : Town) (hv : validT t) : ∀ (d : Nat) (pre : List Int), d ≤ 6 → pre.length + d = t.ts.length → PC Tryd.prog 84 [hF t, lN pre] (lLL (carR t d pre)) := by
  have h8 := hv.len
  have hpl := hv.lp
  have hr3 := rm_pos hv
  intro d
  induction d with
  | zero =>
    intro pre _ hd
    have h86 := c86 t pre (by omega) (by omega)
    have he : ((pre.length : Nat) : Int) = t.pl.length := by omega
    by_cases hr : roomy t pre
    · replace h86 := h86.tru hr
      simp only [carR, if_pos hr]
      refine PC.body Tryd.func84 (by kernel_rfl) rfl (by simp [Tryd.f84]) rfl ?_
      simp only [Tryd.f84]
      intro hlen
      simp only [go_sem, List.length_map, and_true, true_and] at hlen
      refine CV.run ?_
      (repeat' (first | ((with_reducible first | apply sg | apply si | apply sq | apply sd) <;> intro hb <;> (try rw [hb]) <;> (try simp only [bq, bz, dtrue, dfalse] at hb) <;> (try simp only [within] at hb) <;> try simp only [go_sem]) | refine And.intro (by first | exact ⟨⟩ | omega | (simp only [I64]; omega)) ?_ | (with_reducible rw [vc_draw_eq]; first | (refine CV.draw (id := 11) sF13c_f84_11 mixed rfl (by kernel_rfl) ?_; delta sF13c_f84_11)) | ((with_reducible first | refine vp h86 ?_ ?_ | refine dc h86 ?_ ?_); focus (first | exact ⟨rfl, .inl ⟨by first | rfl | (simp only [go_sem, he, List.length_map, encL, List.map_cons, List.map_nil, AV.pureL, AV.pure]; done), by first | (simp only [go_sem, he, List.length_map, encL, List.map_cons, List.map_nil, AV.pureL, AV.pure]; done) | rfl⟩⟩ | exact ⟨rfl, .inr ⟨rfl, by simp only [go_sem, he, List.length_map, encL, List.map_cons, List.map_nil]⟩⟩)) | ((with_reducible first | refine dp h86 ?_ ?_); focus (exact ⟨rfl, by first | rfl | (simp only [go_sem, he, List.length_map, encL, List.map_cons, List.map_nil, AV.pureL, AV.pure]; done), by first | (simp only [go_sem, he, List.length_map, encL, List.map_cons, List.map_nil, AV.pureL, AV.pure]; done) | rfl⟩)) | ((with_reducible first | refine ds h86 ?_ ?_); focus exact ⟨rfl, rfl⟩) | (simp only [go_sem, he, List.length_map, encL, List.map_cons, List.map_nil])))
    · replace h86 := h86.fls hr
      simp only [carR, if_neg hr]
      refine PC.body Tryd.func84 (by kernel_rfl) rfl (by simp [Tryd.f84]) rfl ?_
      simp only [Tryd.f84]
      intro hlen
      simp only [go_sem, List.length_map, and_true, true_and] at hlen
      refine CV.run ?_
      (repeat' (first | ((with_reducible first | apply sg | apply si | apply sq | apply sd) <;> intro hb <;> (try rw [hb]) <;> (try simp only [bq, bz, dtrue, dfalse] at hb) <;> (try simp only [within] at hb) <;> try simp only [go_sem]) | refine And.intro (by first | exact ⟨⟩ | omega | (simp only [I64]; omega)) ?_ | (with_reducible rw [vc_draw_eq]; first | (refine CV.draw (id := 11) sF13c_f84_11 mixed rfl (by kernel_rfl) ?_; delta sF13c_f84_11)) | ((with_reducible first | refine vp h86 ?_ ?_ | refine dc h86 ?_ ?_); focus (first | exact ⟨rfl, .inl ⟨by first | rfl | (simp only [go_sem, he, List.length_map, List.map_nil, AV.pureL, AV.pure]; done), by first | (simp only [go_sem, he, List.length_map, List.map_nil, AV.pureL, AV.pure]; done) | rfl⟩⟩ | exact ⟨rfl, .inr ⟨rfl, by simp only [go_sem, he, List.length_map, List.map_nil]⟩⟩)) | ((with_reducible first | refine dp h86 ?_ ?_); focus (exact ⟨rfl, by first | rfl | (simp only [go_sem, he, List.length_map, List.map_nil, AV.pureL, AV.pure]; done), by first | (simp only [go_sem, he, List.length_map, List.map_nil, AV.pureL, AV.pure]; done) | rfl⟩)) | ((with_reducible first | refine ds h86 ?_ ?_); focus exact ⟨rfl, rfl⟩) | (simp only [go_sem, he, List.length_map, List.map_nil])))
      all_goals trace_state
  | succ d ih =>
    intro pre hd6 hd
    have hne : ¬ ((pre.length : Nat) : Int) = t.pl.length := by omega
    obtain ⟨y, hy⟩ := get_of (l := t.pl) (j := pre.length) (by omega)
    have gy := gv_nat hy
    have hyl : ((pre.length : Nat) : Int) < t.pl.length := by omega
    have h55 := c55 t pre.length (by unfold within; omega)
    have hpow := pow6 (d := d) (by omega)
    rw [carR_succ]
    refine PC.body Tryd.func84 (by kernel_rfl) rfl (by simp [Tryd.f84]) rfl ?_
    simp only [Tryd.f84]
    intro hlen
    simp only [go_sem, List.length_map, and_true, true_and] at hlen
    refine CV.run ?_
    (repeat' (first | ((with_reducible first | apply sg | apply si | apply sq | apply sd) <;> intro hb <;> (try rw [hb]) <;> (try simp only [bq, bz, dtrue, dfalse] at hb) <;> (try simp only [within] at hb) <;> try simp only [go_sem]) | refine And.intro (by first | exact ⟨⟩ | omega | (simp only [I64]; omega)) ?_ | (with_reducible rw [vc_draw_eq]; first | (refine CV.draw (id := 11) sF13c_f84_11 mixed rfl (by kernel_rfl) ?_; delta sF13c_f84_11)) | (simp only [go_sem, hne, List.length_map])))
    refine vc_fw (fun j => ⟨[(7, .int .i64 j), (6, .row 1 (carJ t d pre j).length), (5, .int .i64 pre.length), (4, .nilS), (2, .lp 0 0), (1, lN pre)], [.box 28 (cT t) false, .row 26 1 ((carJ t d pre j).map encL) false]⟩) t.rm.length (fun _ => True) (.nilE 6 26 1 (by (simp only [go_sem])) (by omega) (.base (by (first | exact wk_same (by simp only [go_sem, Int.natCast_add, cn, Int.cast_ofNat_Int, carJ_zero, List.map_nil, List.length_nil]) | (refine wk_drop ?_ ?_ ?_ ?_ ?_ <;> simp only [go_sem, Int.natCast_add, cn, Int.cast_ofNat_Int, carJ_zero, List.map_nil, List.length_nil]))))) trivial ?_
    intro j hj _
    have hjl := (carR_len (t := t) hr3.2 d pre).2 j (by omega)
    have hjm : j * 3 ^ d ≤ 3 * 3 ^ d := Nat.mul_le_mul_right _ (by omega)
    rcases Nat.lt_or_ge j t.rm.length with hlt | hge
    · have hlt' : (j : Int) < t.rm.length := by omega
      have hrec := ih (pre ++ [(j : Int)]) (by omega) (by rw [List.length_append, List.length_singleton]; omega)
      have hrl := (carR_len (t := t) hr3.2 d (pre ++ [(j : Int)])).1
      have hap : List.map encN pre ++ [[AV.int .i64 (j : Int)]] = List.map encN (pre ++ [(j : Int)]) := by simp [encN]
      by_cases c1 : (j : Int) = y
      · have c1' := eq_true c1
        have e := carJ_yes (t := t) (d := d) (pre := pre) (j := j) (.inl (by rw [gy]; exact c1))
        (repeat' (first | ((with_reducible first | apply sg | apply si | apply sq | apply sd) <;> intro hb <;> (try rw [hb]) <;> (try simp only [bq, bz, dtrue, dfalse] at hb) <;> (try simp only [within] at hb) <;> try simp only [go_sem]) | refine And.intro (by first | exact ⟨⟩ | omega | (simp only [I64]; omega)) ?_ | (with_reducible rw [vc_draw_eq]; first | (refine CV.draw (id := 11) sF13c_f84_11 mixed rfl (by kernel_rfl) ?_; delta sF13c_f84_11)) | ((with_reducible first | refine vp h55 ?_ ?_ | refine dc h55 ?_ ?_ | refine vp hrec ?_ ?_ | refine dc hrec ?_ ?_); focus (first | exact ⟨rfl, .inl ⟨by first | rfl | (simp only [go_sem, hlt', hy, hyl, c1', encN, hap, List.length_map, List.nil_append, List.length_append, List.length_cons, List.length_nil, true_or, AV.pureL, AV.pure]; done), by first | (simp only [go_sem, hlt', hy, hyl, c1', encN, hap, List.length_map, List.nil_append, List.length_append, List.length_cons, List.length_nil, true_or, AV.pureL, AV.pure]; done) | rfl⟩⟩ | exact ⟨rfl, .inr ⟨rfl, by simp only [go_sem, hlt', hy, hyl, c1', encN, hap, List.length_map, List.nil_append, List.length_append, List.length_cons, List.length_nil, true_or]⟩⟩)) | ((with_reducible first | refine dp h55 ?_ ?_ | refine dp hrec ?_ ?_); focus (exact ⟨rfl, by first | rfl | (simp only [go_sem, hlt', hy, hyl, c1', encN, hap, List.length_map, List.nil_append, List.length_append, List.length_cons, List.length_nil, true_or, AV.pureL, AV.pure]; done), by first | (simp only [go_sem, hlt', hy, hyl, c1', encN, hap, List.length_map, List.nil_append, List.length_append, List.length_cons, List.length_nil, true_or, AV.pureL, AV.pure]; done) | rfl⟩)) | ((with_reducible first | refine ds h55 ?_ ?_ | refine ds hrec ?_ ?_); focus exact ⟨rfl, rfl⟩) | (simp only [go_sem, hlt', hy, hyl, c1', encN, hap, List.length_map, List.nil_append, List.length_append, List.length_cons, List.length_nil, true_or])))
        all_goals exact .base (by (first | exact wk_same (by simp only [go_sem, Int.natCast_add, cn, Int.cast_ofNat_Int, e, List.map_append, List.length_append]) | (refine wk_drop ?_ ?_ ?_ ?_ ?_ <;> simp only [go_sem, Int.natCast_add, cn, Int.cast_ofNat_Int, e, List.map_append, List.length_append])))
      · by_cases c2 : there t pre.length
        · replace h55 := h55.tru c2
          have e := carJ_yes (t := t) (d := d) (pre := pre) (j := j) (.inr c2)
          (repeat' (first | ((with_reducible first | apply sg | apply si | apply sq | apply sd) <;> intro hb <;> (try rw [hb]) <;> (try simp only [bq, bz, dtrue, dfalse] at hb) <;> (try simp only [within] at hb) <;> try simp only [go_sem]) | refine And.intro (by first | exact ⟨⟩ | omega | (simp only [I64]; omega)) ?_ | (with_reducible rw [vc_draw_eq]; first | (refine CV.draw (id := 11) sF13c_f84_11 mixed rfl (by kernel_rfl) ?_; delta sF13c_f84_11)) | ((with_reducible first | refine vp h55 ?_ ?_ | refine dc h55 ?_ ?_ | refine vp hrec ?_ ?_ | refine dc hrec ?_ ?_); focus (first | exact ⟨rfl, .inl ⟨by first | rfl | (simp only [go_sem, hlt', hy, hyl, c1, encN, hap, List.length_map, List.nil_append, List.length_append, List.length_cons, List.length_nil, true_or, AV.pureL, AV.pure]; done), by first | (simp only [go_sem, hlt', hy, hyl, c1, encN, hap, List.length_map, List.nil_append, List.length_append, List.length_cons, List.length_nil, true_or, AV.pureL, AV.pure]; done) | rfl⟩⟩ | exact ⟨rfl, .inr ⟨rfl, by simp only [go_sem, hlt', hy, hyl, c1, encN, hap, List.length_map, List.nil_append, List.length_append, List.length_cons, List.length_nil, true_or]⟩⟩)) | ((with_reducible first | refine dp h55 ?_ ?_ | refine dp hrec ?_ ?_); focus (exact ⟨rfl, by first | rfl | (simp only [go_sem, hlt', hy, hyl, c1, encN, hap, List.length_map, List.nil_append, List.length_append, List.length_cons, List.length_nil, true_or, AV.pureL, AV.pure]; done), by first | (simp only [go_sem, hlt', hy, hyl, c1, encN, hap, List.length_map, List.nil_append, List.length_append, List.length_cons, List.length_nil, true_or, AV.pureL, AV.pure]; done) | rfl⟩)) | ((with_reducible first | refine ds h55 ?_ ?_ | refine ds hrec ?_ ?_); focus exact ⟨rfl, rfl⟩) | (simp only [go_sem, hlt', hy, hyl, c1, encN, hap, List.length_map, List.nil_append, List.length_append, List.length_cons, List.length_nil, true_or])))
          all_goals exact .base (by (first | exact wk_same (by simp only [go_sem, Int.natCast_add, cn, Int.cast_ofNat_Int, e, List.map_append, List.length_append]) | (refine wk_drop ?_ ?_ ?_ ?_ ?_ <;> simp only [go_sem, Int.natCast_add, cn, Int.cast_ofNat_Int, e, List.map_append, List.length_append])))
        · replace h55 := h55.fls c2
          have e := carJ_no (t := t) (d := d) (pre := pre) (j := j) (fun h => h.elim (fun h => c1 (by rw [← gy]; exact h)) c2)
          (repeat' (first | ((with_reducible first | apply sg | apply si | apply sq | apply sd) <;> intro hb <;> (try rw [hb]) <;> (try simp only [bq, bz, dtrue, dfalse] at hb) <;> (try simp only [within] at hb) <;> try simp only [go_sem]) | refine And.intro (by first | exact ⟨⟩ | omega | (simp only [I64]; omega)) ?_ | (with_reducible rw [vc_draw_eq]; first | (refine CV.draw (id := 11) sF13c_f84_11 mixed rfl (by kernel_rfl) ?_; delta sF13c_f84_11)) | ((with_reducible first | refine vp h55 ?_ ?_ | refine dc h55 ?_ ?_); focus (first | exact ⟨rfl, .inl ⟨by first | rfl | (simp only [go_sem, hlt', hy, hyl, c1, encN, List.length_map, AV.pureL, AV.pure]; done), by first | (simp only [go_sem, hlt', hy, hyl, c1, encN, List.length_map, AV.pureL, AV.pure]; done) | rfl⟩⟩ | exact ⟨rfl, .inr ⟨rfl, by simp only [go_sem, hlt', hy, hyl, c1, encN, List.length_map]⟩⟩)) | ((with_reducible first | refine dp h55 ?_ ?_); focus (exact ⟨rfl, by first | rfl | (simp only [go_sem, hlt', hy, hyl, c1, encN, List.length_map, AV.pureL, AV.pure]; done), by first | (simp only [go_sem, hlt', hy, hyl, c1, encN, List.length_map, AV.pureL, AV.pure]; done) | rfl⟩)) | ((with_reducible first | refine ds h55 ?_ ?_); focus exact ⟨rfl, rfl⟩) | (simp only [go_sem, hlt', hy, hyl, c1, encN, List.length_map])))
          all_goals exact .base (by (first | exact wk_same (by simp only [go_sem, Int.natCast_add, cn, Int.cast_ofNat_Int, e]) | (refine wk_drop ?_ ?_ ?_ ?_ ?_ <;> simp only [go_sem, Int.natCast_add, cn, Int.cast_ofNat_Int, e])))
    · have hge' : ¬ (j : Int) < t.rm.length := by omega
      have : j = t.rm.length := by omega
      subst this
      (repeat' (first | ((with_reducible first | apply sg | apply si | apply sq | apply sd) <;> intro hb <;> (try rw [hb]) <;> (try simp only [bq, bz, dtrue, dfalse] at hb) <;> (try simp only [within] at hb) <;> try simp only [go_sem]) | refine And.intro (by first | exact ⟨⟩ | omega | (simp only [I64]; omega)) ?_ | (with_reducible rw [vc_draw_eq]; first | (refine CV.draw (id := 11) sF13c_f84_11 mixed rfl (by kernel_rfl) ?_; delta sF13c_f84_11)) | (simp only [go_sem, hge', List.length_map])))
      all_goals trace_state
end Go.Proofs.YtjlopclpofbgbaaDoor

