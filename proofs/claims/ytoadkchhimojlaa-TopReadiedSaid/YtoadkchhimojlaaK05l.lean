/- Contracts of functions of the given program, without a condition beyond those that each theorem states; they lead to the given statement. -/
import Derived.Test.YtoadkchhimojlaaK05k
set_option linter.unusedSimpArgs false
set_option linter.unusedVariables false
set_option maxRecDepth 100000
namespace Go.Proofs.Ytoadkchhimojlaa.W5
open Go Go.Fl
open Classical
def sw (l : List Int) (j : Nat) : List Int := (l.set j (gv l ((j - 1 : Nat) : Int))).set (j - 1) (gv l (j : Int))
def innr (s : List Job) : Nat → List Int → List Int
  | 0, l => l
  | j + 1, l => if cmpV s (gv l ((j + 1 : Nat) : Int)) (gv l (j : Int)) < 0 then innr s j (sw l (j + 1)) else l
def outT (s : List Job) (l : List Int) : Nat → List Int
  | 0 => l
  | k + 1 => innr s (k + 1) (outT s l k)
theorem sw_len {l : List Int} {j : Nat} : (sw l j).length = l.length := by simp [sw]
theorem innr_len {s : List Job} : ∀ (j : Nat) (l : List Int), (innr s j l).length = l.length
  | 0, l => rfl
  | j + 1, l => by
    simp only [innr]
    split
    · rw [innr_len j, sw_len]
    · rfl
theorem gv_mem {l : List Int} {j : Nat} (h : j < l.length) : gv l (j : Int) ∈ l := by
  obtain ⟨x, hx⟩ := get_of h
  rw [gv_nat hx]; exact List.mem_of_getElem? hx
theorem sw_on {s : List Job} {l : List Int} {j : Nat} (hj : j < l.length) (h : onJ s l) : onJ s (sw l j) := fun x hx => by
  unfold sw at hx
  rcases List.mem_or_eq_of_mem_set hx with q | q
  · rcases List.mem_or_eq_of_mem_set q with q | q
    · exact h x q
    · rw [q]; exact h _ (gv_mem (by omega))
  · rw [q]; exact h _ (gv_mem hj)
theorem innr_on {s : List Job} : ∀ (j : Nat) (l : List Int), j < l.length → onJ s l → onJ s (innr s j l)
  | 0, l, _, h => h
  | j + 1, l, hj, h => by
    simp only [innr]
    split
    · exact innr_on j _ (by rw [sw_len]; omega) (sw_on hj h)
    · exact h
theorem outT_len {s : List Job} {l : List Int} : ∀ k, (outT s l k).length = l.length
  | 0 => rfl
  | k + 1 => by simp only [outT]; rw [innr_len, outT_len k]
theorem outT_on {s : List Job} {l : List Int} (h : onJ s l) : ∀ k, k < l.length → onJ s (outT s l k)
  | 0, _ => h
  | k + 1, hk => by
    simp only [outT]
    exact innr_on _ _ (by rw [outT_len]; omega) (outT_on h k (by omega))
abbrev H59 (s : List Job) (l : List Int) : Heap := [.box 48 (cS s) false, .box 89 (cS s) false, .box 92 [.fn 47 [.lp 1 0]] false, .row 3 1 (l.map encN) false]
theorem get_map {l : List Int} {j : Nat} {x : Int} (h : l[j]? = some x) : (l.map encN)[j]? = some [.int .i64 x] := by rw [List.getElem?_map, h]; rfl
theorem set_map {l : List Int} {j : Nat} {x : Int} : (l.map encN).set j [.int .i64 x] = (l.set j x).map encN := by rw [List.map_set]; rfl
set_option maxHeartbeats 4000000 in
theorem h101 (s : List Job) (hv : valid s) (l : List Int) (hl : l.length ≤ 1000) (hon : onJ s l) : HCH Try.prog 101 [.row 3 l.length, .int .i64 0, .int .i64 l.length, .fn 49 [.lp 2 0]] (H59 s l) fun r H' => r = .tup [] ∧ H' = H59 s (outT s l (l.length - 1)) := by
  refine HCH.body Try.func101 (by kernel_rfl) rfl (by simp [Try.f101]) ?_
  simp only [Try.f101]
  refine CV.run ?_
  (repeat' (first | ((first | with_reducible refine vcG_split ?_ ?_ | with_reducible refine vcIf_split ?_ ?_ | with_reducible refine vcQ_split ?_ ?_ | with_reducible refine vcDG_split ?_ ?_) <;> intro hb <;> (try rw [hb]) <;> (try simp only [Bool.and_eq_true, Bool.or_eq_true, dtrue, dfalse, Bool.not_eq_true', Bool.not_eq_false', Bool.and_eq_false_iff, Bool.or_eq_false_iff, Bool.not_true, Bool.not_false] at hb) <;> (try simp only [within] at hb) <;> try (simp only [go_sem, argEnv])) | refine And.intro (by (first | exact trivial | (simp only [I64]; omega) | omega)) ?_ | (with_reducible rw [vc_draw_eq]; first | refine CV.draw (id := 4) [(0, 0), (0, 0), (0, 0), (0, 0), (0, 0), (0, 0), (0, 0), (0, 0), (0, 0), (0, 0), (0, 0), (0, 0), (0, 0), (0, 0), (0, 0), (1, 1), (1, 1)] mixed rfl (by kernel_rfl) ?_ | refine CV.draw (id := 6) [(0, 0), (0, 0), (0, 1), (0, 1), (0, 1), (0, 0), (0, 0), (0, 0), (0, 0), (0, 0), (0, 0), (0, 0), (0, 0), (0, 0), (0, 0), (0, 0), (1, 1), (0, 0)] mixed rfl (by kernel_rfl) ?_) | (simp only [go_sem, argEnv])))
  refine vc_for (fun k => ⟨[(8, .int .i64 ((k : Int) + 1)), (0, .row 3 l.length), (1, .int .i64 0), (2, .int .i64 l.length), (3, .fn 49 [.lp 2 0])], H59 s (outT s l k)⟩) (l.length - 1) (fun _ => True) (by (first | exact wk_same (by (simp only [go_sem, Int.natCast_add, Int.natCast_one, Int.natCast_zero, Int.cast_ofNat_Int, outT, Int.zero_add])) | exact wk_drop (by (simp only [go_sem, Int.natCast_add, Int.natCast_one, Int.natCast_zero, Int.cast_ofNat_Int, outT, Int.zero_add])) (by (simp only [go_sem, Int.natCast_add, Int.natCast_one, Int.natCast_zero, Int.cast_ofNat_Int, outT, Int.zero_add])) (by (simp only [go_sem, Int.natCast_add, Int.natCast_one, Int.natCast_zero, Int.cast_ofNat_Int, outT, Int.zero_add])) (by (simp only [go_sem, Int.natCast_add, Int.natCast_one, Int.natCast_zero, Int.cast_ofNat_Int, outT, Int.zero_add])) (by (simp only [go_sem, Int.natCast_add, Int.natCast_one, Int.natCast_zero, Int.cast_ofNat_Int, outT, Int.zero_add])))) trivial ?_
  intro k hk _
  rcases Nat.lt_or_ge (k + 1) l.length with hlt | hge
  · have hlt' : (k : Int) + 1 < l.length := by omega
    have hok := outT_on hon k (by omega)
    have hlk := outT_len (s := s) (l := l) k
    (repeat' (first | ((first | with_reducible refine vcG_split ?_ ?_ | with_reducible refine vcIf_split ?_ ?_ | with_reducible refine vcQ_split ?_ ?_ | with_reducible refine vcDG_split ?_ ?_) <;> intro hb <;> (try rw [hb]) <;> (try simp only [Bool.and_eq_true, Bool.or_eq_true, dtrue, dfalse, Bool.not_eq_true', Bool.not_eq_false', Bool.and_eq_false_iff, Bool.or_eq_false_iff, Bool.not_true, Bool.not_false] at hb) <;> (try simp only [within] at hb) <;> try (simp only [go_sem, hlt'])) | refine And.intro (by (first | exact trivial | (simp only [I64]; omega) | omega)) ?_ | (with_reducible rw [vc_draw_eq]; first | refine CV.draw (id := 4) [(0, 0), (0, 0), (0, 0), (0, 0), (0, 0), (0, 0), (0, 0), (0, 0), (0, 0), (0, 0), (0, 0), (0, 0), (0, 0), (0, 0), (0, 0), (1, 1), (1, 1)] mixed rfl (by kernel_rfl) ?_ | refine CV.draw (id := 6) [(0, 0), (0, 0), (0, 1), (0, 1), (0, 1), (0, 0), (0, 0), (0, 0), (0, 0), (0, 0), (0, 0), (0, 0), (0, 0), (0, 0), (0, 0), (0, 0), (1, 1), (0, 0)] mixed rfl (by kernel_rfl) ?_) | (simp only [go_sem, hlt'])))
    refine vc_fx (fun q m => ⟨[(9, .int .i64 ((k : Int) + 1 - q)), (8, .int .i64 ((k : Int) + 1)), (0, .row 3 l.length), (1, .int .i64 0), (2, .int .i64 l.length), (3, .fn 49 [.lp 2 0])], H59 s m⟩) (k + 1) (fun q m => innr s (k + 1 - q) m = outT s l (k + 1) ∧ m.length = l.length ∧ onJ s m) (outT s l k) (.base (by (first | exact wk_same (by (simp only [go_sem, Int.natCast_add, Int.natCast_one, Int.natCast_zero, Int.cast_ofNat_Int, Int.sub_zero])) | exact wk_drop (by (simp only [go_sem, Int.natCast_add, Int.natCast_one, Int.natCast_zero, Int.cast_ofNat_Int, Int.sub_zero])) (by (simp only [go_sem, Int.natCast_add, Int.natCast_one, Int.natCast_zero, Int.cast_ofNat_Int, Int.sub_zero])) (by (simp only [go_sem, Int.natCast_add, Int.natCast_one, Int.natCast_zero, Int.cast_ofNat_Int, Int.sub_zero])) (by (simp only [go_sem, Int.natCast_add, Int.natCast_one, Int.natCast_zero, Int.cast_ofNat_Int, Int.sub_zero])) (by (simp only [go_sem, Int.natCast_add, Int.natCast_one, Int.natCast_zero, Int.cast_ofNat_Int, Int.sub_zero]))))) ⟨rfl, hlk, hok⟩ ?_
    intro q m hq hx
    obtain ⟨x1, x2, x3⟩ := hx
    rcases Nat.lt_or_ge q (k + 1) with hlt2 | hge2
    · obtain ⟨j, hj⟩ : ∃ j, k + 1 - q = j + 1 := ⟨k - q, by omega⟩
      have hje : (k : Int) + 1 - q = ((j + 1 : Nat) : Int) := by omega
      have hjp : (0 : Int) < ((j + 1 : Nat) : Int) := by omega
      have hjl : ((j + 1 : Nat) : Int) < m.length := by omega
      have hje2 : (k : Int) + 1 - ((q + 1 : Nat) : Int) = (j : Int) := by omega
      have hjm : ((j + 1 : Nat) : Int) - 1 = (j : Int) := by omega
      have hjl2 : (j : Int) < m.length := by omega
      obtain ⟨x, hx1⟩ := get_of (l := m) (j := j + 1) (by omega)
      obtain ⟨y, hy1⟩ := get_of (l := m) (j := j) (by omega)
      have g1 := get_map hx1
      have g2 := get_map hy1
      have hxw := x3 x (List.mem_of_getElem? hx1)
      have hyw := x3 y (List.mem_of_getElem? hy1)
      have h96 := c49 s hv x y hxw hyw
      have e1 := gv_nat hx1
      have e2 := gv_nat hy1
      rw [hj] at x1
      simp only [innr, e1, e2] at x1
      have hsw : sw m (j + 1) = (m.set (j + 1) y).set j x := by simp only [sw, e1, Nat.add_sub_cancel, e2]
      have g3 : (m.set (j + 1) y)[j]? = some y := by rw [List.getElem?_set_ne (by omega)]; exact hy1
      have g4 : (List.map encN (m.set (j + 1) y))[j]? = some [.int .i64 y] := get_map g3
      by_cases hc : cmpV s x y < 0
      · rw [if_pos hc] at x1
        (repeat' (first | ((first | with_reducible refine vcG_split ?_ ?_ | with_reducible refine vcIf_split ?_ ?_ | with_reducible refine vcQ_split ?_ ?_ | with_reducible refine vcDG_split ?_ ?_) <;> intro hb <;> (try rw [hb]) <;> (try simp only [Bool.and_eq_true, Bool.or_eq_true, dtrue, dfalse, Bool.not_eq_true', Bool.not_eq_false', Bool.and_eq_false_iff, Bool.or_eq_false_iff, Bool.not_true, Bool.not_false] at hb) <;> (try simp only [within] at hb) <;> try (simp only [go_sem, hje, hjp, hjl, hjm, hjl2, x2, List.length_map, List.length_set, g1, g2, g3, g4, set_map, hc])) | refine And.intro (by (first | exact trivial | (simp only [I64]; omega) | omega)) ?_ | (with_reducible rw [vc_draw_eq]; first | refine CV.draw (id := 4) [(0, 0), (0, 0), (0, 0), (0, 0), (0, 0), (0, 0), (0, 0), (0, 0), (0, 0), (0, 0), (0, 0), (0, 0), (0, 0), (0, 0), (0, 0), (1, 1), (1, 1)] mixed rfl (by kernel_rfl) ?_ | refine CV.draw (id := 6) [(0, 0), (0, 0), (0, 1), (0, 1), (0, 1), (0, 0), (0, 0), (0, 0), (0, 0), (0, 0), (0, 0), (0, 0), (0, 0), (0, 0), (0, 0), (0, 0), (1, 1), (0, 0)] mixed rfl (by kernel_rfl) ?_) | (first | (refine vcP_pure (h96) rfl ?_ ?_ ?_; (focus (first | rfl | ((simp only [go_sem, hje, hjp, hjl, hjm, hjl2, x2, List.length_map, List.length_set, g1, g2, g3, g4, set_map, hc, AV.pureL, AV.pure, pureL_mapI, Bool.and_self]) <;> fail))); (focus (first | ((simp only [go_sem, hje, hjp, hjl, hjm, hjl2, x2, List.length_map, List.length_set, g1, g2, g3, g4, set_map, hc]) <;> fail) | rfl))) | (refine dCallP_pure (h96) rfl ?_ ?_ ?_; (focus (first | rfl | ((simp only [go_sem, hje, hjp, hjl, hjm, hjl2, x2, List.length_map, List.length_set, g1, g2, g3, g4, set_map, hc, AV.pureL, AV.pure, pureL_mapI, Bool.and_self]) <;> fail))); (focus (first | ((simp only [go_sem, hje, hjp, hjl, hjm, hjl2, x2, List.length_map, List.length_set, g1, g2, g3, g4, set_map, hc]) <;> fail) | rfl))) | (refine dCallC_pure (h96) rfl ?_ ?_ ?_; (focus (first | rfl | ((simp only [go_sem, hje, hjp, hjl, hjm, hjl2, x2, List.length_map, List.length_set, g1, g2, g3, g4, set_map, hc, AV.pureL, AV.pure, pureL_mapI, Bool.and_self]) <;> fail))); (focus (first | ((simp only [go_sem, hje, hjp, hjl, hjm, hjl2, x2, List.length_map, List.length_set, g1, g2, g3, g4, set_map, hc]) <;> fail) | rfl))) | refine dCallC_safe (h96) rfl rfl (by (simp only [go_sem, hje, hjp, hjl, hjm, hjl2, x2, List.length_map, List.length_set, g1, g2, g3, g4, set_map, hc])) ?_ | refine vcP_safe (h96) rfl rfl (by (simp only [go_sem, hje, hjp, hjl, hjm, hjl2, x2, List.length_map, List.length_set, g1, g2, g3, g4, set_map, hc])) ?_ | refine dCallP_safe (h96) rfl rfl ?_) | (simp only [go_sem, hje, hjp, hjl, hjm, hjl2, x2, List.length_map, List.length_set, g1, g2, g3, g4, set_map, hc])))
        refine ⟨(m.set (j + 1) y).set j x, by omega, .base (by (first | exact wk_same (by (simp only [go_sem, Int.natCast_add, Int.natCast_one, Int.natCast_zero, Int.cast_ofNat_Int, ← hje2])) | exact wk_drop (by (simp only [go_sem, Int.natCast_add, Int.natCast_one, Int.natCast_zero, Int.cast_ofNat_Int, ← hje2])) (by (simp only [go_sem, Int.natCast_add, Int.natCast_one, Int.natCast_zero, Int.cast_ofNat_Int, ← hje2])) (by (simp only [go_sem, Int.natCast_add, Int.natCast_one, Int.natCast_zero, Int.cast_ofNat_Int, ← hje2])) (by (simp only [go_sem, Int.natCast_add, Int.natCast_one, Int.natCast_zero, Int.cast_ofNat_Int, ← hje2])) (by (simp only [go_sem, Int.natCast_add, Int.natCast_one, Int.natCast_zero, Int.cast_ofNat_Int, ← hje2])))), by rw [← hsw]; rw [show k + 1 - (q + 1) = j from by omega]; exact x1, by simp [x2], by rw [← hsw]; exact sw_on (by omega) x3⟩
      · rw [if_neg hc] at x1
        (repeat' (first | ((first | with_reducible refine vcG_split ?_ ?_ | with_reducible refine vcIf_split ?_ ?_ | with_reducible refine vcQ_split ?_ ?_ | with_reducible refine vcDG_split ?_ ?_) <;> intro hb <;> (try rw [hb]) <;> (try simp only [Bool.and_eq_true, Bool.or_eq_true, dtrue, dfalse, Bool.not_eq_true', Bool.not_eq_false', Bool.and_eq_false_iff, Bool.or_eq_false_iff, Bool.not_true, Bool.not_false] at hb) <;> (try simp only [within] at hb) <;> try (simp only [go_sem, hje, hjp, hjl, hjm, hjl2, x2, List.length_map, g1, g2, hc])) | refine And.intro (by (first | exact trivial | (simp only [I64]; omega) | omega)) ?_ | (with_reducible rw [vc_draw_eq]; first | refine CV.draw (id := 4) [(0, 0), (0, 0), (0, 0), (0, 0), (0, 0), (0, 0), (0, 0), (0, 0), (0, 0), (0, 0), (0, 0), (0, 0), (0, 0), (0, 0), (0, 0), (1, 1), (1, 1)] mixed rfl (by kernel_rfl) ?_ | refine CV.draw (id := 6) [(0, 0), (0, 0), (0, 1), (0, 1), (0, 1), (0, 0), (0, 0), (0, 0), (0, 0), (0, 0), (0, 0), (0, 0), (0, 0), (0, 0), (0, 0), (0, 0), (1, 1), (0, 0)] mixed rfl (by kernel_rfl) ?_) | (first | (refine vcP_pure (h96) rfl ?_ ?_ ?_; (focus (first | rfl | ((simp only [go_sem, hje, hjp, hjl, hjm, hjl2, x2, List.length_map, g1, g2, hc, AV.pureL, AV.pure, pureL_mapI, Bool.and_self]) <;> fail))); (focus (first | ((simp only [go_sem, hje, hjp, hjl, hjm, hjl2, x2, List.length_map, g1, g2, hc]) <;> fail) | rfl))) | (refine dCallP_pure (h96) rfl ?_ ?_ ?_; (focus (first | rfl | ((simp only [go_sem, hje, hjp, hjl, hjm, hjl2, x2, List.length_map, g1, g2, hc, AV.pureL, AV.pure, pureL_mapI, Bool.and_self]) <;> fail))); (focus (first | ((simp only [go_sem, hje, hjp, hjl, hjm, hjl2, x2, List.length_map, g1, g2, hc]) <;> fail) | rfl))) | (refine dCallC_pure (h96) rfl ?_ ?_ ?_; (focus (first | rfl | ((simp only [go_sem, hje, hjp, hjl, hjm, hjl2, x2, List.length_map, g1, g2, hc, AV.pureL, AV.pure, pureL_mapI, Bool.and_self]) <;> fail))); (focus (first | ((simp only [go_sem, hje, hjp, hjl, hjm, hjl2, x2, List.length_map, g1, g2, hc]) <;> fail) | rfl))) | refine dCallC_safe (h96) rfl rfl (by (simp only [go_sem, hje, hjp, hjl, hjm, hjl2, x2, List.length_map, g1, g2, hc])) ?_ | refine vcP_safe (h96) rfl rfl (by (simp only [go_sem, hje, hjp, hjl, hjm, hjl2, x2, List.length_map, g1, g2, hc])) ?_ | refine dCallP_safe (h96) rfl rfl ?_) | (simp only [go_sem, hje, hjp, hjl, hjm, hjl2, x2, List.length_map, g1, g2, hc])))
        have hm : m = outT s l (k + 1) := x1
        rw [← hm]
        exact (by (first | exact wk_same (by (simp only [go_sem, Int.natCast_add, Int.natCast_one, Int.natCast_zero, Int.cast_ofNat_Int])) | exact wk_drop (by (simp only [go_sem, Int.natCast_add, Int.natCast_one, Int.natCast_zero, Int.cast_ofNat_Int])) (by (simp only [go_sem, Int.natCast_add, Int.natCast_one, Int.natCast_zero, Int.cast_ofNat_Int])) (by (simp only [go_sem, Int.natCast_add, Int.natCast_one, Int.natCast_zero, Int.cast_ofNat_Int])) (by (simp only [go_sem, Int.natCast_add, Int.natCast_one, Int.natCast_zero, Int.cast_ofNat_Int])) (by (simp only [go_sem, Int.natCast_add, Int.natCast_one, Int.natCast_zero, Int.cast_ofNat_Int]))))
    · have : q = k + 1 := by omega
      subst this
      have hz : (k : Int) + 1 - ((k + 1 : Nat) : Int) = 0 := by omega
      have hm : m = outT s l (k + 1) := by rw [← x1, Nat.sub_self]; rfl
      have h00 : ((0 : Int) < 0) = False := by simp
      rw [hm]
      (repeat' (first | ((first | with_reducible refine vcG_split ?_ ?_ | with_reducible refine vcIf_split ?_ ?_ | with_reducible refine vcQ_split ?_ ?_ | with_reducible refine vcDG_split ?_ ?_) <;> intro hb <;> (try rw [hb]) <;> (try simp only [Bool.and_eq_true, Bool.or_eq_true, dtrue, dfalse, Bool.not_eq_true', Bool.not_eq_false', Bool.and_eq_false_iff, Bool.or_eq_false_iff, Bool.not_true, Bool.not_false] at hb) <;> (try simp only [within] at hb) <;> try (simp only [go_sem, hz, h00])) | refine And.intro (by (first | exact trivial | (simp only [I64]; omega) | omega)) ?_ | (with_reducible rw [vc_draw_eq]; first | refine CV.draw (id := 4) [(0, 0), (0, 0), (0, 0), (0, 0), (0, 0), (0, 0), (0, 0), (0, 0), (0, 0), (0, 0), (0, 0), (0, 0), (0, 0), (0, 0), (0, 0), (1, 1), (1, 1)] mixed rfl (by kernel_rfl) ?_ | refine CV.draw (id := 6) [(0, 0), (0, 0), (0, 1), (0, 1), (0, 1), (0, 0), (0, 0), (0, 0), (0, 0), (0, 0), (0, 0), (0, 0), (0, 0), (0, 0), (0, 0), (0, 0), (1, 1), (0, 0)] mixed rfl (by kernel_rfl) ?_) | (simp only [go_sem, hz, h00])))
      exact (by (first | exact wk_same (by (simp only [go_sem, Int.natCast_add, Int.natCast_one, Int.natCast_zero, Int.cast_ofNat_Int])) | exact wk_drop (by (simp only [go_sem, Int.natCast_add, Int.natCast_one, Int.natCast_zero, Int.cast_ofNat_Int])) (by (simp only [go_sem, Int.natCast_add, Int.natCast_one, Int.natCast_zero, Int.cast_ofNat_Int])) (by (simp only [go_sem, Int.natCast_add, Int.natCast_one, Int.natCast_zero, Int.cast_ofNat_Int])) (by (simp only [go_sem, Int.natCast_add, Int.natCast_one, Int.natCast_zero, Int.cast_ofNat_Int])) (by (simp only [go_sem, Int.natCast_add, Int.natCast_one, Int.natCast_zero, Int.cast_ofNat_Int]))))
  · have hge' : ¬ (k : Int) + 1 < l.length := by omega
    have : k = l.length - 1 := by omega
    subst this
    (repeat' (first | ((first | with_reducible refine vcG_split ?_ ?_ | with_reducible refine vcIf_split ?_ ?_ | with_reducible refine vcQ_split ?_ ?_ | with_reducible refine vcDG_split ?_ ?_) <;> intro hb <;> (try rw [hb]) <;> (try simp only [Bool.and_eq_true, Bool.or_eq_true, dtrue, dfalse, Bool.not_eq_true', Bool.not_eq_false', Bool.and_eq_false_iff, Bool.or_eq_false_iff, Bool.not_true, Bool.not_false] at hb) <;> (try simp only [within] at hb) <;> try (simp only [go_sem, hge'])) | refine And.intro (by (first | exact trivial | (simp only [I64]; omega) | omega)) ?_ | (with_reducible rw [vc_draw_eq]; first | refine CV.draw (id := 4) [(0, 0), (0, 0), (0, 0), (0, 0), (0, 0), (0, 0), (0, 0), (0, 0), (0, 0), (0, 0), (0, 0), (0, 0), (0, 0), (0, 0), (0, 0), (1, 1), (1, 1)] mixed rfl (by kernel_rfl) ?_ | refine CV.draw (id := 6) [(0, 0), (0, 0), (0, 1), (0, 1), (0, 1), (0, 0), (0, 0), (0, 0), (0, 0), (0, 0), (0, 0), (0, 0), (0, 0), (0, 0), (0, 0), (0, 0), (1, 1), (0, 0)] mixed rfl (by kernel_rfl) ?_) | (simp only [go_sem, hge'])))
    all_goals trace_state
end Go.Proofs.Ytoadkchhimojlaa.W5

