/- Contracts of functions of the given program, without a condition beyond those that each theorem states; they lead to the given statement. -/
import Derived.Test.YtoadkchhimojlaaGreatG02i
set_option linter.unusedSimpArgs false
set_option linter.unusedVariables false
set_option maxRecDepth 100000
namespace Go.Proofs.YtoadkchhimojlaaGreat.W2
open Go Go.Fl
open Classical
def arr (f : Nat → Int) : List Int := (List.range 5).map f
theorem arr_len {f : Nat → Int} : (arr f).length = 5 := by simp [arr]
theorem arr_get {f : Nat → Int} {k : Nat} (h : k < 5) : (arr f)[k]? = some (f k) := by
  simp [arr, h]
theorem arr_set {f g : Nat → Int} {k : Nat} {v : Int} (hk : k < 5) (h1 : g k = v) (h2 : ∀ i, i ≠ k → g i = f i) : (arr f).set k v = arr g := by
  apply List.ext_getElem?
  intro i
  rw [List.getElem?_set]
  by_cases hi : k = i
  · subst hi
    rw [if_pos rfl, if_pos (by rw [arr_len]; exact hk), arr_get hk, h1]
  · rw [if_neg hi]
    rcases Nat.lt_or_ge i 5 with h5 | h5
    · rw [arr_get h5, arr_get h5, h2 i (fun e => hi e.symm)]
    · rw [List.getElem?_eq_none (by rw [arr_len]; exact h5), List.getElem?_eq_none (by rw [arr_len]; exact h5)]
theorem arr_ext {f g : Nat → Int} (h : ∀ i, i < 5 → f i = g i) : arr f = arr g := by
  unfold arr
  exact List.map_congr_left fun i hi => h i (List.mem_range.1 hi)
theorem arr_zero : (arr fun _ => 0).map I = [.int .i64 0, .int .i64 0, .int .i64 0, .int .i64 0, .int .i64 0] := rfl
def lvF (s : Shop) (w : List Int) (k i : Nat) : Int := if i < k then lf s w i else 0
def lvT (s : Shop) (w : List Int) (k : Nat) : List Int := arr (lvF s w k)
def lv (s : Shop) (w : List Int) : List Int := lvT s w s.ms.length
def suF (s : Shop) (W : List (List Int)) (i : Nat) : Int := if i < s.ms.length then loW s W i else 0
def su (s : Shop) (W : List (List Int)) : List Int := arr (suF s W)
def mxF (s : Shop) (W : List (List Int)) (w : List Int) (k i : Nat) : Int := if i < s.ms.length then (if i < k then loW s (W ++ [w]) i else loW s W i) else 0
def mx (s : Shop) (W : List (List Int)) (w : List Int) (k : Nat) : List Int := arr (mxF s W w k)
theorem lvT_zero {s : Shop} {w : List Int} : (lvT s w 0).map I = [.int .i64 0, .int .i64 0, .int .i64 0, .int .i64 0, .int .i64 0] := by
  rw [← arr_zero]; rfl
theorem su_nil {s : Shop} : (su s []).map I = [.int .i64 0, .int .i64 0, .int .i64 0, .int .i64 0, .int .i64 0] := by
  rw [← arr_zero, su, arr_ext (g := fun _ => 0) (fun i _ => by unfold suF; split <;> rfl)]
theorem lvT_succ {s : Shop} {w : List Int} {k : Nat} (hk : k < 5) : (lvT s w k).set k (lf s w k) = lvT s w (k + 1) :=
  arr_set hk (by simp [lvF]) fun i hi => by
    unfold lvF
    by_cases h : i < k
    · rw [if_pos h, if_pos (by omega)]
    · rw [if_neg h, if_neg (by omega)]
theorem mx_zero {s : Shop} {W : List (List Int)} {w : List Int} : mx s W w 0 = su s W := arr_ext fun i _ => by simp [mxF, suF]
theorem mx_full {s : Shop} {W : List (List Int)} {w : List Int} : mx s W w s.ms.length = su s (W ++ [w]) := arr_ext fun i _ => by
  unfold mxF suF
  by_cases h : i < s.ms.length <;> simp [h]
theorem mx_get {s : Shop} {W : List (List Int)} {w : List Int} {k : Nat} (hk : k < s.ms.length) (h5 : k < 5) : (mx s W w k)[k]? = some (loW s W k) := by
  rw [mx, arr_get h5]; simp [mxF, hk]
theorem mx_succ {s : Shop} {W : List (List Int)} {w : List Int} {k : Nat} (hk : k < s.ms.length) (h5 : k < 5) {v : Int} (hv : loW s (W ++ [w]) k = v) : (mx s W w k).set k v = mx s W w (k + 1) :=
  arr_set h5 (by simp [mxF, hk, hv]) fun i hi => by
    unfold mxF
    by_cases h : i < k
    · simp [h, show i < k + 1 from by omega]
    · simp [h, show ¬ i < k + 1 from by omega]
theorem mx_same {s : Shop} {W : List (List Int)} {w : List Int} {k : Nat} (hv : loW s (W ++ [w]) k = loW s W k) : mx s W w (k + 1) = mx s W w k := arr_ext fun i _ => by
  unfold mxF
  by_cases h : i < k
  · simp [h, show i < k + 1 from by omega]
  · by_cases h2 : i = k
    · subst h2; simp [hv]
    · simp [h, show ¬ i < k + 1 from by omega]
theorem mx_len {s : Shop} {W : List (List Int)} {w : List Int} {k : Nat} : (mx s W w k).length = 5 := arr_len
theorem lvT_len {s : Shop} {w : List Int} {k : Nat} : (lvT s w k).length = 5 := arr_len
theorem lvT_take {s : Shop} {w : List Int} {k : Nat} : List.take 5 (List.map I (lvT s w k)) = List.map I (lvT s w k) := List.take_of_length_le (by simp [lvT_len])
theorem su_len {s : Shop} {W : List (List Int)} : (su s W).length = 5 := arr_len
abbrev encL (s : Shop) (W : List (List Int)) : List (List AV) := (W.map (lv s)).map fun l => l.map I
theorem encL_nil {s : Shop} : encL s [] = [] := rfl
theorem encL_app {s : Shop} {W : List (List Int)} {w : List Int} : encL s (W ++ [w]) = encL s W ++ [(lv s w).map I] := by simp [encL]
abbrev cX (s : Shop) : List AV := .lst false 3 (s.ms.map encD) :: .lst false 1 (s.ws.map encW) :: lN s.wt :: .int .i64 s.fr :: .lst false 5 (encL s (aW s)) :: (su s (aW s)).map I
abbrev HO (s : Shop) (W : List (List Int)) : Heap := [.box 32 (cS s) false, .box 88 (.lst false 3 (s.ms.map encD) :: .lst false 1 (s.ws.map encW) :: lN s.wt :: .int .i64 s.fr :: .row 3 W.length :: (su s W).map I) false, .box 79 [.lp 1 0] false, .row 86 5 (encL s W) false]
set_option maxHeartbeats 4000000 in
theorem c30 (s : Shop) (hv : valid s) (hne : aW s ≠ []) : PC Tryz.prog 30 [hS s, .bool true] (.tup [.pp (cX s), .int .i64 0]) := by
  have hl0 : ¬ ((aW s).length : Int) = 0 := by have := List.length_pos_iff.2 hne; omega
  have hc := check_valid hv
  have h5 := hv.2.1
  have h6 := hv.2.2.1
  have hal := aW_len hv
  refine PC.body Tryz.func30 (by kernel_rfl) rfl (by simp [Tryz.f30]) rfl ?_
  simp only [Tryz.f30]
  intro hlen
  simp only [go_sem, List.length_map, and_true, true_and] at hlen
  refine CV.run ?_
  (repeat' (first | ((first | with_reducible refine vcG_split ?_ ?_ | with_reducible refine vcIf_split ?_ ?_ | with_reducible refine vcQ_split ?_ ?_ | with_reducible refine vcDG_split ?_ ?_) <;> intro hb <;> (try rw [hb]) <;> (try simp only [Bool.and_eq_true, Bool.or_eq_true, dtrue, dfalse, Bool.not_eq_true', Bool.not_eq_false', Bool.and_eq_false_iff, Bool.or_eq_false_iff, Bool.not_true, Bool.not_false] at hb) <;> (try simp only [within] at hb) <;> try (simp only [go_sem, hc])) | refine And.intro (by (first | exact trivial | (simp only [I64]; omega) | omega)) ?_ | (with_reducible rw [vc_draw_eq]; first | refine CV.draw (id := 13) [(0, 0), (0, 0), (0, 0), (0, 0), (0, 0), (0, 0), (0, 0), (0, 0), (0, 0), (0, 0)] mixed rfl (by kernel_rfl) ?_ | refine CV.draw (id := 14) [(0, 0), (0, 0), (0, 0), (0, 0), (0, 0), (0, 0), (0, 0), (0, 0), (0, 0), (0, 0), (0, 0), (0, 0), (0, 0), (0, 0), (0, 0), (0, 0), (0, 0), (0, 0)] mixed rfl (by kernel_rfl) ?_ | refine CV.draw (id := 15) [(0, 0), (0, 0), (0, 0), (0, 0), (0, 0), (0, 0), (0, 0), (0, 0), (0, 0)] mixed rfl (by kernel_rfl) ?_ | refine CV.draw (id := 17) [(0, 1), (0, 0), (0, 0), (0, 0), (0, 0), (0, 0), (0, 0), (0, 0), (1, 1), (1, 1), (0, 0)] mixed rfl (by kernel_rfl) ?_) | (first | (refine vcP_pure (c50 _) rfl ?_ ?_ ?_; (focus (first | rfl | ((simp only [go_sem, hc, AV.pureL, AV.pure, pureL_mapI, Bool.and_self]) <;> fail))); (focus (first | ((simp only [go_sem, hc]) <;> fail) | rfl))) | (refine dCallP_pure (c50 _) rfl ?_ ?_ ?_; (focus (first | rfl | ((simp only [go_sem, hc, AV.pureL, AV.pure, pureL_mapI, Bool.and_self]) <;> fail))); (focus (first | ((simp only [go_sem, hc]) <;> fail) | rfl))) | (refine dCallC_pure (c50 _) rfl ?_ ?_ ?_; (focus (first | rfl | ((simp only [go_sem, hc, AV.pureL, AV.pure, pureL_mapI, Bool.and_self]) <;> fail))); (focus (first | ((simp only [go_sem, hc]) <;> fail) | rfl))) | refine dCallC_safe (c50 _) rfl rfl (by (simp only [go_sem, hc])) ?_ | refine vcP_safe (c50 _) rfl rfl (by (simp only [go_sem, hc])) ?_ | refine dCallP_safe (c50 _) rfl rfl ?_ | (refine vcP_pure (c51 _) rfl ?_ ?_ ?_; (focus (first | rfl | ((simp only [go_sem, hc, AV.pureL, AV.pure, pureL_mapI, Bool.and_self]) <;> fail))); (focus (first | ((simp only [go_sem, hc]) <;> fail) | rfl))) | (refine dCallP_pure (c51 _) rfl ?_ ?_ ?_; (focus (first | rfl | ((simp only [go_sem, hc, AV.pureL, AV.pure, pureL_mapI, Bool.and_self]) <;> fail))); (focus (first | ((simp only [go_sem, hc]) <;> fail) | rfl))) | (refine dCallC_pure (c51 _) rfl ?_ ?_ ?_; (focus (first | rfl | ((simp only [go_sem, hc, AV.pureL, AV.pure, pureL_mapI, Bool.and_self]) <;> fail))); (focus (first | ((simp only [go_sem, hc]) <;> fail) | rfl))) | refine dCallC_safe (c51 _) rfl rfl (by (simp only [go_sem, hc])) ?_ | refine vcP_safe (c51 _) rfl rfl (by (simp only [go_sem, hc])) ?_ | refine dCallP_safe (c51 _) rfl rfl ?_) | (simp only [go_sem, hc])))
  rw [vc_range_eq]
  refine CV.wn (st' := ⟨[(24, .fn 76 [.pp (cS s)]), (7, .lp 2 0), (4, .nilP), (5, .int .i64 0), (2, .lp 0 0)], HO s (aT s 0)⟩) (.nilB 1 4 86 5 rfl rfl (by omega) (.base (by (first | exact wk_same (by (simp only [go_sem, Int.natCast_add, Int.natCast_one, Int.natCast_zero, Int.cast_ofNat_Int, su_nil, aT_zero, encL_nil])) | exact wk_drop (by (simp only [go_sem, Int.natCast_add, Int.natCast_one, Int.natCast_zero, Int.cast_ofNat_Int, su_nil, aT_zero, encL_nil])) (by (simp only [go_sem, Int.natCast_add, Int.natCast_one, Int.natCast_zero, Int.cast_ofNat_Int, su_nil, aT_zero, encL_nil])) (by (simp only [go_sem, Int.natCast_add, Int.natCast_one, Int.natCast_zero, Int.cast_ofNat_Int, su_nil, aT_zero, encL_nil])) (by (simp only [go_sem, Int.natCast_add, Int.natCast_one, Int.natCast_zero, Int.cast_ofNat_Int, su_nil, aT_zero, encL_nil])) (by (simp only [go_sem, Int.natCast_add, Int.natCast_one, Int.natCast_zero, Int.cast_ofNat_Int, su_nil, aT_zero, encL_nil])))))) ?_
  refine CV.rangeP rfl (by (simp only [go_sem])) (HO s (aW s)) rfl (by (simp only [go_sem])) (by (simp only [go_sem])) (fun l => ?_) ?_
  · have h102 := fun ps assign body env0 => c76 s hv (fun n => HO s (aT s n)) l 88 ps assign body env0
    rw [← aT_all (s := s) (Nat.le_refl _)]
    refine h102 _ _ _ _ (fun n w hw ha => ?_) (fun n w hw ha => by simp only [aT_no hw ha])
    have hal2 := aT_len s n
    have hn := (List.getElem?_eq_some_iff.1 hw).1
    obtain ⟨hwl, hwn⟩ := hv.world hw
    have hws := List.mem_of_getElem? hw
    rw [aT_yes hw ha]
    generalize hW : aT s n = W at hal2 ⊢
    refine HCY.body2 (H := HO s W) (H' := HO s (W ++ [w])) (by omega) (by omega) rfl (by (simp only [go_sem])) (by (simp only [go_sem])) rfl rfl ?_
    (repeat' (first | ((first | with_reducible refine vcG_split ?_ ?_ | with_reducible refine vcIf_split ?_ ?_ | with_reducible refine vcQ_split ?_ ?_ | with_reducible refine vcDG_split ?_ ?_) <;> intro hb <;> (try rw [hb]) <;> (try simp only [Bool.and_eq_true, Bool.or_eq_true, dtrue, dfalse, Bool.not_eq_true', Bool.not_eq_false', Bool.and_eq_false_iff, Bool.or_eq_false_iff, Bool.not_true, Bool.not_false] at hb) <;> (try simp only [within] at hb) <;> try (simp only [go_sem])) | refine And.intro (by (first | exact trivial | (simp only [I64]; omega) | omega)) ?_ | (with_reducible rw [vc_draw_eq]; first | refine CV.draw (id := 13) [(0, 0), (0, 0), (0, 0), (0, 0), (0, 0), (0, 0), (0, 0), (0, 0), (0, 0), (0, 0)] mixed rfl (by kernel_rfl) ?_ | refine CV.draw (id := 14) [(0, 0), (0, 0), (0, 0), (0, 0), (0, 0), (0, 0), (0, 0), (0, 0), (0, 0), (0, 0), (0, 0), (0, 0), (0, 0), (0, 0), (0, 0), (0, 0), (0, 0), (0, 0)] mixed rfl (by kernel_rfl) ?_ | refine CV.draw (id := 15) [(0, 0), (0, 0), (0, 0), (0, 0), (0, 0), (0, 0), (0, 0), (0, 0), (0, 0)] mixed rfl (by kernel_rfl) ?_ | refine CV.draw (id := 17) [(0, 1), (0, 0), (0, 0), (0, 0), (0, 0), (0, 0), (0, 0), (0, 0), (1, 1), (1, 1), (0, 0)] mixed rfl (by kernel_rfl) ?_) | (simp only [go_sem])))
    refine vc_for (fun k => ⟨[(30, .int .i64 k), (29, .int .i64 s.ms.length), (28, .lst false 3 (s.ms.map encD)), (9, lN w), (10, .lp 4 0), (7, .lp 2 0), (2, .lp 0 0)], [.box 32 (cS s) false, .box 88 (.lst false 3 (s.ms.map encD) :: .lst false 1 (s.ws.map encW) :: lN s.wt :: .int .i64 s.fr :: .row 3 W.length :: (mx s W w k).map I) false, .box 79 [.lp 1 0] false, .row 86 5 (encL s W) false, .box 86 ((lvT s w k).map I) false]⟩) s.ms.length (fun k => True) (by (first | exact wk_same (by (simp only [go_sem, Int.natCast_add, Int.natCast_one, Int.natCast_zero, Int.cast_ofNat_Int, mx_zero, lvT_zero])) | exact wk_drop (by (simp only [go_sem, Int.natCast_add, Int.natCast_one, Int.natCast_zero, Int.cast_ofNat_Int, mx_zero, lvT_zero])) (by (simp only [go_sem, Int.natCast_add, Int.natCast_one, Int.natCast_zero, Int.cast_ofNat_Int, mx_zero, lvT_zero])) (by (simp only [go_sem, Int.natCast_add, Int.natCast_one, Int.natCast_zero, Int.cast_ofNat_Int, mx_zero, lvT_zero])) (by (simp only [go_sem, Int.natCast_add, Int.natCast_one, Int.natCast_zero, Int.cast_ofNat_Int, mx_zero, lvT_zero])) (by (simp only [go_sem, Int.natCast_add, Int.natCast_one, Int.natCast_zero, Int.cast_ofNat_Int, mx_zero, lvT_zero])))) trivial ?_
    intro k hk _
    rcases Nat.lt_or_ge k s.ms.length with hlt | hge
    · obtain ⟨m, hm⟩ := get_of hlt
      obtain ⟨x, hx⟩ := get_of (l := w) (j := k) (by omega)
      have hlt' : (k : Int) < s.ms.length := by omega
      have hlt2' : (k : Int) < w.length := by omega
      have hk5 : k < 5 := by omega
      have hk5' : (k : Int) < 5 := by omega
      have hl := hv.left hws k hlt
      have e0 : lf s w k = x - m.used := by unfold lf; rw [uo_of hm, gv_nat hx]
      have e1 := lvT_succ (s := s) (w := w) hk5
      rw [e0] at e1 hl
      have e2 : (lvT s w (k + 1))[k]? = some (x - m.used) := by rw [← e1, List.getElem?_set_self (by rw [lvT_len]; exact hk5)]
      have e3 := mx_get (W := W) (w := w) hlt hk5
      have e4 := fun v => mx_succ (W := W) (w := w) hlt hk5 (v := v)
      have e5 := mx_same (s := s) (W := W) (w := w) (k := k)
      rw [loW_app] at e4 e5
      rw [e0] at e4 e5
      have hmxl : k < (mx s W w k).length := by rw [mx_len]; exact hk5
      have hlvl : k < (lvT s w k).length := by rw [lvT_len]; exact hk5
      (repeat' (first | ((first | with_reducible refine vcG_split ?_ ?_ | with_reducible refine vcIf_split ?_ ?_ | with_reducible refine vcQ_split ?_ ?_ | with_reducible refine vcDG_split ?_ ?_) <;> intro hb <;> (try rw [hb]) <;> (try simp only [Bool.and_eq_true, Bool.or_eq_true, dtrue, dfalse, Bool.not_eq_true', Bool.not_eq_false', Bool.and_eq_false_iff, Bool.or_eq_false_iff, Bool.not_true, Bool.not_false] at hb) <;> (try simp only [within] at hb) <;> try (simp only [go_sem, hlt', hlt2', hk5, hk5', hm, hx, encD, encN, put0, put5, hmxl, hlvl, e1, e2, e3, getI, Option.map_some, I, drop_head, Nat.mul_one, List.length_map, lvT_len, mx_len])) | refine And.intro (by (first | exact trivial | (simp only [I64]; omega) | omega)) ?_ | (with_reducible rw [vc_draw_eq]; first | refine CV.draw (id := 13) [(0, 0), (0, 0), (0, 0), (0, 0), (0, 0), (0, 0), (0, 0), (0, 0), (0, 0), (0, 0)] mixed rfl (by kernel_rfl) ?_ | refine CV.draw (id := 14) [(0, 0), (0, 0), (0, 0), (0, 0), (0, 0), (0, 0), (0, 0), (0, 0), (0, 0), (0, 0), (0, 0), (0, 0), (0, 0), (0, 0), (0, 0), (0, 0), (0, 0), (0, 0)] mixed rfl (by kernel_rfl) ?_ | refine CV.draw (id := 15) [(0, 0), (0, 0), (0, 0), (0, 0), (0, 0), (0, 0), (0, 0), (0, 0), (0, 0)] mixed rfl (by kernel_rfl) ?_ | refine CV.draw (id := 17) [(0, 1), (0, 0), (0, 0), (0, 0), (0, 0), (0, 0), (0, 0), (0, 0), (1, 1), (1, 1), (0, 0)] mixed rfl (by kernel_rfl) ?_) | (simp only [go_sem, hlt', hlt2', hk5, hk5', hm, hx, encD, encN, put0, put5, hmxl, hlvl, e1, e2, e3, getI, Option.map_some, I, drop_head, Nat.mul_one, List.length_map, lvT_len, mx_len])))
      · have e6 := e4 (x - m.used) (by split <;> omega)
        (first | exact wk_same (by (simp only [go_sem, Int.natCast_add, Int.natCast_one, Int.natCast_zero, Int.cast_ofNat_Int, e6])) | exact wk_drop (by (simp only [go_sem, Int.natCast_add, Int.natCast_one, Int.natCast_zero, Int.cast_ofNat_Int, e6])) (by (simp only [go_sem, Int.natCast_add, Int.natCast_one, Int.natCast_zero, Int.cast_ofNat_Int, e6])) (by (simp only [go_sem, Int.natCast_add, Int.natCast_one, Int.natCast_zero, Int.cast_ofNat_Int, e6])) (by (simp only [go_sem, Int.natCast_add, Int.natCast_one, Int.natCast_zero, Int.cast_ofNat_Int, e6])) (by (simp only [go_sem, Int.natCast_add, Int.natCast_one, Int.natCast_zero, Int.cast_ofNat_Int, e6])))
      · have hW0 : W = [] := List.eq_nil_of_length_eq_zero (by omega)
        have e6 := e4 (x - m.used) (by rw [if_pos hW0])
        (first | exact wk_same (by (simp only [go_sem, Int.natCast_add, Int.natCast_one, Int.natCast_zero, Int.cast_ofNat_Int, e6])) | exact wk_drop (by (simp only [go_sem, Int.natCast_add, Int.natCast_one, Int.natCast_zero, Int.cast_ofNat_Int, e6])) (by (simp only [go_sem, Int.natCast_add, Int.natCast_one, Int.natCast_zero, Int.cast_ofNat_Int, e6])) (by (simp only [go_sem, Int.natCast_add, Int.natCast_one, Int.natCast_zero, Int.cast_ofNat_Int, e6])) (by (simp only [go_sem, Int.natCast_add, Int.natCast_one, Int.natCast_zero, Int.cast_ofNat_Int, e6])) (by (simp only [go_sem, Int.natCast_add, Int.natCast_one, Int.natCast_zero, Int.cast_ofNat_Int, e6])))
      · have hW0 : ¬ W = [] := fun h => by rw [h] at hb; exact hb rfl
        have e6 := e5 (by rw [if_neg hW0]; omega)
        (first | exact wk_same (by (simp only [go_sem, Int.natCast_add, Int.natCast_one, Int.natCast_zero, Int.cast_ofNat_Int, e6])) | exact wk_drop (by (simp only [go_sem, Int.natCast_add, Int.natCast_one, Int.natCast_zero, Int.cast_ofNat_Int, e6])) (by (simp only [go_sem, Int.natCast_add, Int.natCast_one, Int.natCast_zero, Int.cast_ofNat_Int, e6])) (by (simp only [go_sem, Int.natCast_add, Int.natCast_one, Int.natCast_zero, Int.cast_ofNat_Int, e6])) (by (simp only [go_sem, Int.natCast_add, Int.natCast_one, Int.natCast_zero, Int.cast_ofNat_Int, e6])) (by (simp only [go_sem, Int.natCast_add, Int.natCast_one, Int.natCast_zero, Int.cast_ofNat_Int, e6])))
    · have hge' : ¬ (k : Int) < s.ms.length := by omega
      have : k = s.ms.length := by omega
      subst this
      have hWl : (encL s W).length = W.length := by simp
      (repeat' (first | ((first | with_reducible refine vcG_split ?_ ?_ | with_reducible refine vcIf_split ?_ ?_ | with_reducible refine vcQ_split ?_ ?_ | with_reducible refine vcDG_split ?_ ?_) <;> intro hb <;> (try rw [hb]) <;> (try simp only [Bool.and_eq_true, Bool.or_eq_true, dtrue, dfalse, Bool.not_eq_true', Bool.not_eq_false', Bool.and_eq_false_iff, Bool.or_eq_false_iff, Bool.not_true, Bool.not_false] at hb) <;> (try simp only [within] at hb) <;> try (simp only [go_sem, hge', mx_full, hWl, List.length_map, lvT_len, lvT_take, List.drop_succ_cons, List.drop_zero, List.append_nil])) | refine And.intro (by (first | exact trivial | (simp only [I64]; omega) | omega)) ?_ | (with_reducible rw [vc_draw_eq]; first | refine CV.draw (id := 13) [(0, 0), (0, 0), (0, 0), (0, 0), (0, 0), (0, 0), (0, 0), (0, 0), (0, 0), (0, 0)] mixed rfl (by kernel_rfl) ?_ | refine CV.draw (id := 14) [(0, 0), (0, 0), (0, 0), (0, 0), (0, 0), (0, 0), (0, 0), (0, 0), (0, 0), (0, 0), (0, 0), (0, 0), (0, 0), (0, 0), (0, 0), (0, 0), (0, 0), (0, 0)] mixed rfl (by kernel_rfl) ?_ | refine CV.draw (id := 15) [(0, 0), (0, 0), (0, 0), (0, 0), (0, 0), (0, 0), (0, 0), (0, 0), (0, 0)] mixed rfl (by kernel_rfl) ?_ | refine CV.draw (id := 17) [(0, 1), (0, 0), (0, 0), (0, 0), (0, 0), (0, 0), (0, 0), (0, 0), (1, 1), (1, 1), (0, 0)] mixed rfl (by kernel_rfl) ?_) | (simp only [go_sem, hge', mx_full, hWl, List.length_map, lvT_len, lvT_take, List.drop_succ_cons, List.drop_zero, List.append_nil])))
      exact .base (by (first | exact wk_same (by (simp only [go_sem, Int.natCast_add, Int.natCast_one, Int.natCast_zero, Int.cast_ofNat_Int, encL_app, lv, List.length_append, List.length_cons, List.length_nil])) | exact wk_drop (by (simp only [go_sem, Int.natCast_add, Int.natCast_one, Int.natCast_zero, Int.cast_ofNat_Int, encL_app, lv, List.length_append, List.length_cons, List.length_nil])) (by (simp only [go_sem, Int.natCast_add, Int.natCast_one, Int.natCast_zero, Int.cast_ofNat_Int, encL_app, lv, List.length_append, List.length_cons, List.length_nil])) (by (simp only [go_sem, Int.natCast_add, Int.natCast_one, Int.natCast_zero, Int.cast_ofNat_Int, encL_app, lv, List.length_append, List.length_cons, List.length_nil])) (by (simp only [go_sem, Int.natCast_add, Int.natCast_one, Int.natCast_zero, Int.cast_ofNat_Int, encL_app, lv, List.length_append, List.length_cons, List.length_nil])) (by (simp only [go_sem, Int.natCast_add, Int.natCast_one, Int.natCast_zero, Int.cast_ofNat_Int, encL_app, lv, List.length_append, List.length_cons, List.length_nil]))))
  · (repeat' (first | ((first | with_reducible refine vcG_split ?_ ?_ | with_reducible refine vcIf_split ?_ ?_ | with_reducible refine vcQ_split ?_ ?_ | with_reducible refine vcDG_split ?_ ?_) <;> intro hb <;> (try rw [hb]) <;> (try simp only [Bool.and_eq_true, Bool.or_eq_true, dtrue, dfalse, Bool.not_eq_true', Bool.not_eq_false', Bool.and_eq_false_iff, Bool.or_eq_false_iff, Bool.not_true, Bool.not_false] at hb) <;> (try simp only [within] at hb) <;> try (simp only [go_sem, hl0])) | refine And.intro (by (first | exact trivial | (simp only [I64]; omega) | omega)) ?_ | (with_reducible rw [vc_draw_eq]; first | refine CV.draw (id := 13) [(0, 0), (0, 0), (0, 0), (0, 0), (0, 0), (0, 0), (0, 0), (0, 0), (0, 0), (0, 0)] mixed rfl (by kernel_rfl) ?_ | refine CV.draw (id := 14) [(0, 0), (0, 0), (0, 0), (0, 0), (0, 0), (0, 0), (0, 0), (0, 0), (0, 0), (0, 0), (0, 0), (0, 0), (0, 0), (0, 0), (0, 0), (0, 0), (0, 0), (0, 0)] mixed rfl (by kernel_rfl) ?_ | refine CV.draw (id := 15) [(0, 0), (0, 0), (0, 0), (0, 0), (0, 0), (0, 0), (0, 0), (0, 0), (0, 0)] mixed rfl (by kernel_rfl) ?_ | refine CV.draw (id := 17) [(0, 1), (0, 0), (0, 0), (0, 0), (0, 0), (0, 0), (0, 0), (0, 0), (1, 1), (1, 1), (0, 0)] mixed rfl (by kernel_rfl) ?_) | (simp only [go_sem, hl0])))
set_option maxHeartbeats 4000000 in
theorem c30n (s : Shop) (hv : valid s) (hne : aW s = []) : PC Tryz.prog 30 [hS s, .bool true] (.tup [.nilP, .int .i64 3]) := by
  have hl0 : ((aW s).length : Int) = 0 := by rw [hne]; rfl
  have hc := check_valid hv
  have h5 := hv.2.1
  have h6 := hv.2.2.1
  have hal := aW_len hv
  refine PC.body Tryz.func30 (by kernel_rfl) rfl (by simp [Tryz.f30]) rfl ?_
  simp only [Tryz.f30]
  intro hlen
  simp only [go_sem, List.length_map, and_true, true_and] at hlen
  refine CV.run ?_
  (repeat' (first | ((first | with_reducible refine vcG_split ?_ ?_ | with_reducible refine vcIf_split ?_ ?_ | with_reducible refine vcQ_split ?_ ?_ | with_reducible refine vcDG_split ?_ ?_) <;> intro hb <;> (try rw [hb]) <;> (try simp only [Bool.and_eq_true, Bool.or_eq_true, dtrue, dfalse, Bool.not_eq_true', Bool.not_eq_false', Bool.and_eq_false_iff, Bool.or_eq_false_iff, Bool.not_true, Bool.not_false] at hb) <;> (try simp only [within] at hb) <;> try (simp only [go_sem, hc])) | refine And.intro (by (first | exact trivial | (simp only [I64]; omega) | omega)) ?_ | (with_reducible rw [vc_draw_eq]; first | refine CV.draw (id := 13) [(0, 0), (0, 0), (0, 0), (0, 0), (0, 0), (0, 0), (0, 0), (0, 0), (0, 0), (0, 0)] mixed rfl (by kernel_rfl) ?_ | refine CV.draw (id := 14) [(0, 0), (0, 0), (0, 0), (0, 0), (0, 0), (0, 0), (0, 0), (0, 0), (0, 0), (0, 0), (0, 0), (0, 0), (0, 0), (0, 0), (0, 0), (0, 0), (0, 0), (0, 0)] mixed rfl (by kernel_rfl) ?_ | refine CV.draw (id := 15) [(0, 0), (0, 0), (0, 0), (0, 0), (0, 0), (0, 0), (0, 0), (0, 0), (0, 0)] mixed rfl (by kernel_rfl) ?_ | refine CV.draw (id := 17) [(0, 1), (0, 0), (0, 0), (0, 0), (0, 0), (0, 0), (0, 0), (0, 0), (1, 1), (1, 1), (0, 0)] mixed rfl (by kernel_rfl) ?_) | (first | (refine vcP_pure (c50 _) rfl ?_ ?_ ?_; (focus (first | rfl | ((simp only [go_sem, hc, AV.pureL, AV.pure, pureL_mapI, Bool.and_self]) <;> fail))); (focus (first | ((simp only [go_sem, hc]) <;> fail) | rfl))) | (refine dCallP_pure (c50 _) rfl ?_ ?_ ?_; (focus (first | rfl | ((simp only [go_sem, hc, AV.pureL, AV.pure, pureL_mapI, Bool.and_self]) <;> fail))); (focus (first | ((simp only [go_sem, hc]) <;> fail) | rfl))) | (refine dCallC_pure (c50 _) rfl ?_ ?_ ?_; (focus (first | rfl | ((simp only [go_sem, hc, AV.pureL, AV.pure, pureL_mapI, Bool.and_self]) <;> fail))); (focus (first | ((simp only [go_sem, hc]) <;> fail) | rfl))) | refine dCallC_safe (c50 _) rfl rfl (by (simp only [go_sem, hc])) ?_ | refine vcP_safe (c50 _) rfl rfl (by (simp only [go_sem, hc])) ?_ | refine dCallP_safe (c50 _) rfl rfl ?_ | (refine vcP_pure (c51 _) rfl ?_ ?_ ?_; (focus (first | rfl | ((simp only [go_sem, hc, AV.pureL, AV.pure, pureL_mapI, Bool.and_self]) <;> fail))); (focus (first | ((simp only [go_sem, hc]) <;> fail) | rfl))) | (refine dCallP_pure (c51 _) rfl ?_ ?_ ?_; (focus (first | rfl | ((simp only [go_sem, hc, AV.pureL, AV.pure, pureL_mapI, Bool.and_self]) <;> fail))); (focus (first | ((simp only [go_sem, hc]) <;> fail) | rfl))) | (refine dCallC_pure (c51 _) rfl ?_ ?_ ?_; (focus (first | rfl | ((simp only [go_sem, hc, AV.pureL, AV.pure, pureL_mapI, Bool.and_self]) <;> fail))); (focus (first | ((simp only [go_sem, hc]) <;> fail) | rfl))) | refine dCallC_safe (c51 _) rfl rfl (by (simp only [go_sem, hc])) ?_ | refine vcP_safe (c51 _) rfl rfl (by (simp only [go_sem, hc])) ?_ | refine dCallP_safe (c51 _) rfl rfl ?_) | (simp only [go_sem, hc])))
  rw [vc_range_eq]
  refine CV.wn (st' := ⟨[(24, .fn 76 [.pp (cS s)]), (7, .lp 2 0), (4, .nilP), (5, .int .i64 0), (2, .lp 0 0)], HO s (aT s 0)⟩) (.nilB 1 4 86 5 rfl rfl (by omega) (.base (by (first | exact wk_same (by (simp only [go_sem, Int.natCast_add, Int.natCast_one, Int.natCast_zero, Int.cast_ofNat_Int, su_nil, aT_zero, encL_nil])) | exact wk_drop (by (simp only [go_sem, Int.natCast_add, Int.natCast_one, Int.natCast_zero, Int.cast_ofNat_Int, su_nil, aT_zero, encL_nil])) (by (simp only [go_sem, Int.natCast_add, Int.natCast_one, Int.natCast_zero, Int.cast_ofNat_Int, su_nil, aT_zero, encL_nil])) (by (simp only [go_sem, Int.natCast_add, Int.natCast_one, Int.natCast_zero, Int.cast_ofNat_Int, su_nil, aT_zero, encL_nil])) (by (simp only [go_sem, Int.natCast_add, Int.natCast_one, Int.natCast_zero, Int.cast_ofNat_Int, su_nil, aT_zero, encL_nil])) (by (simp only [go_sem, Int.natCast_add, Int.natCast_one, Int.natCast_zero, Int.cast_ofNat_Int, su_nil, aT_zero, encL_nil])))))) ?_
  refine CV.rangeP rfl (by (simp only [go_sem])) (HO s (aW s)) rfl (by (simp only [go_sem])) (by (simp only [go_sem])) (fun l => ?_) ?_
  · have h102 := fun ps assign body env0 => c76 s hv (fun n => HO s (aT s n)) l 88 ps assign body env0
    rw [← aT_all (s := s) (Nat.le_refl _)]
    refine h102 _ _ _ _ (fun n w hw ha => ?_) (fun n w hw ha => by simp only [aT_no hw ha])
    have hal2 := aT_len s n
    have hn := (List.getElem?_eq_some_iff.1 hw).1
    obtain ⟨hwl, hwn⟩ := hv.world hw
    have hws := List.mem_of_getElem? hw
    rw [aT_yes hw ha]
    generalize hW : aT s n = W at hal2 ⊢
    refine HCY.body2 (H := HO s W) (H' := HO s (W ++ [w])) (by omega) (by omega) rfl (by (simp only [go_sem])) (by (simp only [go_sem])) rfl rfl ?_
    (repeat' (first | ((first | with_reducible refine vcG_split ?_ ?_ | with_reducible refine vcIf_split ?_ ?_ | with_reducible refine vcQ_split ?_ ?_ | with_reducible refine vcDG_split ?_ ?_) <;> intro hb <;> (try rw [hb]) <;> (try simp only [Bool.and_eq_true, Bool.or_eq_true, dtrue, dfalse, Bool.not_eq_true', Bool.not_eq_false', Bool.and_eq_false_iff, Bool.or_eq_false_iff, Bool.not_true, Bool.not_false] at hb) <;> (try simp only [within] at hb) <;> try (simp only [go_sem])) | refine And.intro (by (first | exact trivial | (simp only [I64]; omega) | omega)) ?_ | (with_reducible rw [vc_draw_eq]; first | refine CV.draw (id := 13) [(0, 0), (0, 0), (0, 0), (0, 0), (0, 0), (0, 0), (0, 0), (0, 0), (0, 0), (0, 0)] mixed rfl (by kernel_rfl) ?_ | refine CV.draw (id := 14) [(0, 0), (0, 0), (0, 0), (0, 0), (0, 0), (0, 0), (0, 0), (0, 0), (0, 0), (0, 0), (0, 0), (0, 0), (0, 0), (0, 0), (0, 0), (0, 0), (0, 0), (0, 0)] mixed rfl (by kernel_rfl) ?_ | refine CV.draw (id := 15) [(0, 0), (0, 0), (0, 0), (0, 0), (0, 0), (0, 0), (0, 0), (0, 0), (0, 0)] mixed rfl (by kernel_rfl) ?_ | refine CV.draw (id := 17) [(0, 1), (0, 0), (0, 0), (0, 0), (0, 0), (0, 0), (0, 0), (0, 0), (1, 1), (1, 1), (0, 0)] mixed rfl (by kernel_rfl) ?_) | (simp only [go_sem])))
    refine vc_for (fun k => ⟨[(30, .int .i64 k), (29, .int .i64 s.ms.length), (28, .lst false 3 (s.ms.map encD)), (9, lN w), (10, .lp 4 0), (7, .lp 2 0), (2, .lp 0 0)], [.box 32 (cS s) false, .box 88 (.lst false 3 (s.ms.map encD) :: .lst false 1 (s.ws.map encW) :: lN s.wt :: .int .i64 s.fr :: .row 3 W.length :: (mx s W w k).map I) false, .box 79 [.lp 1 0] false, .row 86 5 (encL s W) false, .box 86 ((lvT s w k).map I) false]⟩) s.ms.length (fun k => True) (by (first | exact wk_same (by (simp only [go_sem, Int.natCast_add, Int.natCast_one, Int.natCast_zero, Int.cast_ofNat_Int, mx_zero, lvT_zero])) | exact wk_drop (by (simp only [go_sem, Int.natCast_add, Int.natCast_one, Int.natCast_zero, Int.cast_ofNat_Int, mx_zero, lvT_zero])) (by (simp only [go_sem, Int.natCast_add, Int.natCast_one, Int.natCast_zero, Int.cast_ofNat_Int, mx_zero, lvT_zero])) (by (simp only [go_sem, Int.natCast_add, Int.natCast_one, Int.natCast_zero, Int.cast_ofNat_Int, mx_zero, lvT_zero])) (by (simp only [go_sem, Int.natCast_add, Int.natCast_one, Int.natCast_zero, Int.cast_ofNat_Int, mx_zero, lvT_zero])) (by (simp only [go_sem, Int.natCast_add, Int.natCast_one, Int.natCast_zero, Int.cast_ofNat_Int, mx_zero, lvT_zero])))) trivial ?_
    intro k hk _
    rcases Nat.lt_or_ge k s.ms.length with hlt | hge
    · obtain ⟨m, hm⟩ := get_of hlt
      obtain ⟨x, hx⟩ := get_of (l := w) (j := k) (by omega)
      have hlt' : (k : Int) < s.ms.length := by omega
      have hlt2' : (k : Int) < w.length := by omega
      have hk5 : k < 5 := by omega
      have hk5' : (k : Int) < 5 := by omega
      have hl := hv.left hws k hlt
      have e0 : lf s w k = x - m.used := by unfold lf; rw [uo_of hm, gv_nat hx]
      have e1 := lvT_succ (s := s) (w := w) hk5
      rw [e0] at e1 hl
      have e2 : (lvT s w (k + 1))[k]? = some (x - m.used) := by rw [← e1, List.getElem?_set_self (by rw [lvT_len]; exact hk5)]
      have e3 := mx_get (W := W) (w := w) hlt hk5
      have e4 := fun v => mx_succ (W := W) (w := w) hlt hk5 (v := v)
      have e5 := mx_same (s := s) (W := W) (w := w) (k := k)
      rw [loW_app] at e4 e5
      rw [e0] at e4 e5
      have hmxl : k < (mx s W w k).length := by rw [mx_len]; exact hk5
      have hlvl : k < (lvT s w k).length := by rw [lvT_len]; exact hk5
      (repeat' (first | ((first | with_reducible refine vcG_split ?_ ?_ | with_reducible refine vcIf_split ?_ ?_ | with_reducible refine vcQ_split ?_ ?_ | with_reducible refine vcDG_split ?_ ?_) <;> intro hb <;> (try rw [hb]) <;> (try simp only [Bool.and_eq_true, Bool.or_eq_true, dtrue, dfalse, Bool.not_eq_true', Bool.not_eq_false', Bool.and_eq_false_iff, Bool.or_eq_false_iff, Bool.not_true, Bool.not_false] at hb) <;> (try simp only [within] at hb) <;> try (simp only [go_sem, hlt', hlt2', hk5, hk5', hm, hx, encD, encN, put0, put5, hmxl, hlvl, e1, e2, e3, getI, Option.map_some, I, drop_head, Nat.mul_one, List.length_map, lvT_len, mx_len])) | refine And.intro (by (first | exact trivial | (simp only [I64]; omega) | omega)) ?_ | (with_reducible rw [vc_draw_eq]; first | refine CV.draw (id := 13) [(0, 0), (0, 0), (0, 0), (0, 0), (0, 0), (0, 0), (0, 0), (0, 0), (0, 0), (0, 0)] mixed rfl (by kernel_rfl) ?_ | refine CV.draw (id := 14) [(0, 0), (0, 0), (0, 0), (0, 0), (0, 0), (0, 0), (0, 0), (0, 0), (0, 0), (0, 0), (0, 0), (0, 0), (0, 0), (0, 0), (0, 0), (0, 0), (0, 0), (0, 0)] mixed rfl (by kernel_rfl) ?_ | refine CV.draw (id := 15) [(0, 0), (0, 0), (0, 0), (0, 0), (0, 0), (0, 0), (0, 0), (0, 0), (0, 0)] mixed rfl (by kernel_rfl) ?_ | refine CV.draw (id := 17) [(0, 1), (0, 0), (0, 0), (0, 0), (0, 0), (0, 0), (0, 0), (0, 0), (1, 1), (1, 1), (0, 0)] mixed rfl (by kernel_rfl) ?_) | (simp only [go_sem, hlt', hlt2', hk5, hk5', hm, hx, encD, encN, put0, put5, hmxl, hlvl, e1, e2, e3, getI, Option.map_some, I, drop_head, Nat.mul_one, List.length_map, lvT_len, mx_len])))
      · have e6 := e4 (x - m.used) (by split <;> omega)
        (first | exact wk_same (by (simp only [go_sem, Int.natCast_add, Int.natCast_one, Int.natCast_zero, Int.cast_ofNat_Int, e6])) | exact wk_drop (by (simp only [go_sem, Int.natCast_add, Int.natCast_one, Int.natCast_zero, Int.cast_ofNat_Int, e6])) (by (simp only [go_sem, Int.natCast_add, Int.natCast_one, Int.natCast_zero, Int.cast_ofNat_Int, e6])) (by (simp only [go_sem, Int.natCast_add, Int.natCast_one, Int.natCast_zero, Int.cast_ofNat_Int, e6])) (by (simp only [go_sem, Int.natCast_add, Int.natCast_one, Int.natCast_zero, Int.cast_ofNat_Int, e6])) (by (simp only [go_sem, Int.natCast_add, Int.natCast_one, Int.natCast_zero, Int.cast_ofNat_Int, e6])))
      · have hW0 : W = [] := List.eq_nil_of_length_eq_zero (by omega)
        have e6 := e4 (x - m.used) (by rw [if_pos hW0])
        (first | exact wk_same (by (simp only [go_sem, Int.natCast_add, Int.natCast_one, Int.natCast_zero, Int.cast_ofNat_Int, e6])) | exact wk_drop (by (simp only [go_sem, Int.natCast_add, Int.natCast_one, Int.natCast_zero, Int.cast_ofNat_Int, e6])) (by (simp only [go_sem, Int.natCast_add, Int.natCast_one, Int.natCast_zero, Int.cast_ofNat_Int, e6])) (by (simp only [go_sem, Int.natCast_add, Int.natCast_one, Int.natCast_zero, Int.cast_ofNat_Int, e6])) (by (simp only [go_sem, Int.natCast_add, Int.natCast_one, Int.natCast_zero, Int.cast_ofNat_Int, e6])) (by (simp only [go_sem, Int.natCast_add, Int.natCast_one, Int.natCast_zero, Int.cast_ofNat_Int, e6])))
      · have hW0 : ¬ W = [] := fun h => by rw [h] at hb; exact hb rfl
        have e6 := e5 (by rw [if_neg hW0]; omega)
        (first | exact wk_same (by (simp only [go_sem, Int.natCast_add, Int.natCast_one, Int.natCast_zero, Int.cast_ofNat_Int, e6])) | exact wk_drop (by (simp only [go_sem, Int.natCast_add, Int.natCast_one, Int.natCast_zero, Int.cast_ofNat_Int, e6])) (by (simp only [go_sem, Int.natCast_add, Int.natCast_one, Int.natCast_zero, Int.cast_ofNat_Int, e6])) (by (simp only [go_sem, Int.natCast_add, Int.natCast_one, Int.natCast_zero, Int.cast_ofNat_Int, e6])) (by (simp only [go_sem, Int.natCast_add, Int.natCast_one, Int.natCast_zero, Int.cast_ofNat_Int, e6])) (by (simp only [go_sem, Int.natCast_add, Int.natCast_one, Int.natCast_zero, Int.cast_ofNat_Int, e6])))
    · have hge' : ¬ (k : Int) < s.ms.length := by omega
      have : k = s.ms.length := by omega
      subst this
      have hWl : (encL s W).length = W.length := by simp
      (repeat' (first | ((first | with_reducible refine vcG_split ?_ ?_ | with_reducible refine vcIf_split ?_ ?_ | with_reducible refine vcQ_split ?_ ?_ | with_reducible refine vcDG_split ?_ ?_) <;> intro hb <;> (try rw [hb]) <;> (try simp only [Bool.and_eq_true, Bool.or_eq_true, dtrue, dfalse, Bool.not_eq_true', Bool.not_eq_false', Bool.and_eq_false_iff, Bool.or_eq_false_iff, Bool.not_true, Bool.not_false] at hb) <;> (try simp only [within] at hb) <;> try (simp only [go_sem, hge', mx_full, hWl, List.length_map, lvT_len, lvT_take, List.drop_succ_cons, List.drop_zero, List.append_nil])) | refine And.intro (by (first | exact trivial | (simp only [I64]; omega) | omega)) ?_ | (with_reducible rw [vc_draw_eq]; first | refine CV.draw (id := 13) [(0, 0), (0, 0), (0, 0), (0, 0), (0, 0), (0, 0), (0, 0), (0, 0), (0, 0), (0, 0)] mixed rfl (by kernel_rfl) ?_ | refine CV.draw (id := 14) [(0, 0), (0, 0), (0, 0), (0, 0), (0, 0), (0, 0), (0, 0), (0, 0), (0, 0), (0, 0), (0, 0), (0, 0), (0, 0), (0, 0), (0, 0), (0, 0), (0, 0), (0, 0)] mixed rfl (by kernel_rfl) ?_ | refine CV.draw (id := 15) [(0, 0), (0, 0), (0, 0), (0, 0), (0, 0), (0, 0), (0, 0), (0, 0), (0, 0)] mixed rfl (by kernel_rfl) ?_ | refine CV.draw (id := 17) [(0, 1), (0, 0), (0, 0), (0, 0), (0, 0), (0, 0), (0, 0), (0, 0), (1, 1), (1, 1), (0, 0)] mixed rfl (by kernel_rfl) ?_) | (simp only [go_sem, hge', mx_full, hWl, List.length_map, lvT_len, lvT_take, List.drop_succ_cons, List.drop_zero, List.append_nil])))
      exact .base (by (first | exact wk_same (by (simp only [go_sem, Int.natCast_add, Int.natCast_one, Int.natCast_zero, Int.cast_ofNat_Int, encL_app, lv, List.length_append, List.length_cons, List.length_nil])) | exact wk_drop (by (simp only [go_sem, Int.natCast_add, Int.natCast_one, Int.natCast_zero, Int.cast_ofNat_Int, encL_app, lv, List.length_append, List.length_cons, List.length_nil])) (by (simp only [go_sem, Int.natCast_add, Int.natCast_one, Int.natCast_zero, Int.cast_ofNat_Int, encL_app, lv, List.length_append, List.length_cons, List.length_nil])) (by (simp only [go_sem, Int.natCast_add, Int.natCast_one, Int.natCast_zero, Int.cast_ofNat_Int, encL_app, lv, List.length_append, List.length_cons, List.length_nil])) (by (simp only [go_sem, Int.natCast_add, Int.natCast_one, Int.natCast_zero, Int.cast_ofNat_Int, encL_app, lv, List.length_append, List.length_cons, List.length_nil])) (by (simp only [go_sem, Int.natCast_add, Int.natCast_one, Int.natCast_zero, Int.cast_ofNat_Int, encL_app, lv, List.length_append, List.length_cons, List.length_nil]))))
  · (repeat' (first | ((first | with_reducible refine vcG_split ?_ ?_ | with_reducible refine vcIf_split ?_ ?_ | with_reducible refine vcQ_split ?_ ?_ | with_reducible refine vcDG_split ?_ ?_) <;> intro hb <;> (try rw [hb]) <;> (try simp only [Bool.and_eq_true, Bool.or_eq_true, dtrue, dfalse, Bool.not_eq_true', Bool.not_eq_false', Bool.and_eq_false_iff, Bool.or_eq_false_iff, Bool.not_true, Bool.not_false] at hb) <;> (try simp only [within] at hb) <;> try (simp only [go_sem, hl0])) | refine And.intro (by (first | exact trivial | (simp only [I64]; omega) | omega)) ?_ | (with_reducible rw [vc_draw_eq]; first | refine CV.draw (id := 13) [(0, 0), (0, 0), (0, 0), (0, 0), (0, 0), (0, 0), (0, 0), (0, 0), (0, 0), (0, 0)] mixed rfl (by kernel_rfl) ?_ | refine CV.draw (id := 14) [(0, 0), (0, 0), (0, 0), (0, 0), (0, 0), (0, 0), (0, 0), (0, 0), (0, 0), (0, 0), (0, 0), (0, 0), (0, 0), (0, 0), (0, 0), (0, 0), (0, 0), (0, 0)] mixed rfl (by kernel_rfl) ?_ | refine CV.draw (id := 15) [(0, 0), (0, 0), (0, 0), (0, 0), (0, 0), (0, 0), (0, 0), (0, 0), (0, 0)] mixed rfl (by kernel_rfl) ?_ | refine CV.draw (id := 17) [(0, 1), (0, 0), (0, 0), (0, 0), (0, 0), (0, 0), (0, 0), (0, 0), (1, 1), (1, 1), (0, 0)] mixed rfl (by kernel_rfl) ?_) | (simp only [go_sem, hl0])))
end Go.Proofs.YtoadkchhimojlaaGreat.W2

