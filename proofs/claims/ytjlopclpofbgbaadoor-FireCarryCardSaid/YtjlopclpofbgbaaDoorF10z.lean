/- Contracts of functions of the given program, without a condition beyond those that each theorem states; they lead to the given statement. -/
import Derived.Test.YtjlopclpofbgbaaDoorF10y
set_option linter.unusedSimpArgs false
set_option linter.unusedVariables false
set_option maxRecDepth 100000
namespace Go.Proofs.YtjlopclpofbgbaaDoor
open Go Go.Fl
open Classical
def sF10z_f30_1 : List (Nat × Nat) := [(0, 0), (0, 0), (0, 0), (0, 0), (0, 0), (0, 0), (0, 0), (0, 0), (0, 0), (0, 0), (0, 0), (0, 0), (0, 1), (0, 0), (0, 0), (1, 1)]
def sF10z_f30_9 : List (Nat × Nat) := [(0, 0), (0, 0), (0, 0), (0, 0), (0, 0), (0, 0), (0, 0), (0, 0), (0, 0), (0, 0), (0, 0)]
def sF10z_f30_10 : List (Nat × Nat) := [(0, 0), (0, 0), (0, 0), (0, 0), (0, 0), (0, 0), (0, 0), (0, 0), (0, 0), (0, 0), (0, 0), (0, 0), (0, 0), (0, 0), (0, 0)]
def sF10z_f30_12 : List (Nat × Nat) := [(0, 0), (0, 0), (0, 0), (0, 0)]
def betA (x y : List Int) : Prop := x.length < y.length ∨ x.length = y.length ∧ earlier x y
noncomputable def agS (t : Town) (S : Option (List Int)) (i : Int) : Option (List Int) := match S with
  | none => some (lks t i)
  | some y => if betA (lks t i) y then some (lks t i) else some y
noncomputable def ag (t : Town) (L : List Int) : Option (List Int) := L.foldl (agS t) none
def lsA : Option (List Int) → AV | none => .nilS | some l => lN l
def eA : Option (List Int) → Int | none => 3 | some _ => 0
def resA : Option (List Int) → AV | none => .tup [.nilS, .int .i64 3] | some l => .tup [lN l, .int .i64 0]
theorem lsA_n : lsA none = .nilS := rfl
theorem lsA_s {x : List Int} : lsA (some x) = lN x := rfl
theorem eA_n : eA none = 3 := rfl
theorem eA_s {x : List Int} : eA (some x) = 0 := rfl
theorem pure_resA : ∀ {S}, (resA S).pure = true
  | none => rfl
  | some l => rfl
theorem belowV_lsA {n : Nat} : ∀ {S}, belowV n (lsA S) = true
  | none => rfl
  | some l => rfl
theorem ag_snoc {t : Town} {L : List Int} {x : Int} : ag t (L ++ [x]) = agS t (ag t L) x := by simp only [ag, List.foldl_append, List.foldl_cons, List.foldl_nil]
theorem lks_len {t : Town} {i : Int} : (lks t i).length ≤ 3 := sel_len _ _
theorem ag_some {t : Town} {x : Int} : ∀ (n : Nat) (L : List Int), L.length = n → ∃ i, ag t (x :: L) = some (lks t i) := fun n => by
  induction n with
  | zero => intro L h; have : L = [] := List.eq_nil_of_length_eq_zero h; subst this; exact ⟨x, rfl⟩
  | succ n ih =>
    intro L h
    have hne : L ≠ [] := by intro e; rw [e] at h; simp at h
    obtain ⟨B, z, rfl⟩ : ∃ B z, L = B ++ [z] := ⟨_, _, (List.dropLast_concat_getLast hne).symm⟩
    obtain ⟨i, hi⟩ := ih B (by simpa using h)
    rw [← List.cons_append, ag_snoc, hi]
    simp only [agS]
    split
    · exact ⟨z, rfl⟩
    · exact ⟨i, rfl⟩
theorem ag_len {t : Town} {L y : List Int} (h : ag t L = some y) : y.length ≤ 3 := by
  cases L with
  | nil => cases h
  | cons x L =>
    obtain ⟨i, hi⟩ := ag_some (t := t) (x := x) L.length L rfl
    rw [hi] at h; cases h; exact lks_len
theorem ag_cons {t : Town} {x : Int} {L : List Int} : ∃ y, ag t (x :: L) = some y := by
  obtain ⟨i, hi⟩ := ag_some (t := t) (x := x) L.length L rfl
  exact ⟨_, hi⟩
theorem msk_diff (p q : Nat → Prop) : (((msk p 3).toNat &&& (18446744073709551615 - (msk q 3).toNat) : Nat) : Int) = msk (fun c => p c ∧ ¬ q c) 3 := by
  rw [msk3, msk3, msk3]
  by_cases h0 : p 0 <;> by_cases h1 : p 1 <;> by_cases h2 : p 2 <;> by_cases k0 : q 0 <;> by_cases k1 : q 1 <;> by_cases k2 : q 2 <;> simp [h0, h1, h2, k0, k1, k2]
theorem lks_sel {t : Town} {i : Nat} {p : Int} (h : there t i) (hp : pg t i = p) : sel (fun c => hsG t t.ts.length p c ∧ ¬ hasG t i c) 3 = lks t i := by
  unfold lks
  refine sel_congr _ fun c _ => ?_
  unfold lkP
  rw [hp]
  constructor
  · rintro ⟨⟨k, k1, k2, k3, k4⟩, h2⟩
    exact ⟨⟨k, thg_mem.2 ⟨by omega, by omega, k2, k3⟩, k4⟩, fun hh => h2 ⟨h, hh⟩⟩
  · rintro ⟨⟨x, x1, x2⟩, h2⟩
    obtain ⟨y1, y2, y3, y4⟩ := thg_mem.1 x1
    have e : ((x.toNat : Nat) : Int) = x := by omega
    exact ⟨⟨x.toNat, by omega, by rw [e]; exact ⟨y3, y4, x2⟩⟩, fun hh => h2 hh.2⟩
set_option maxHeartbeats 2000000 in
theorem c30y (t : Town) (b p : Int) (hv : validT t) (hb : house t b) (hp : isPage t p) : PC Tryd.prog 30 [hF t, .int .i64 b, .int .i64 p] (resA (ag t (lft t (thg t p) b))) := by
  have h68 := (c68 t b).tru hb
  have h75 := (c75 t p).tru hp
  have h67 := c67y t hv
  have h69 := c69 t b
  have h8 := hv.len
  have hpw := hp.1
  unfold within at hpw
  have hIp : I64 p = True := eq_true (by simp only [I64]; omega)
  have gl : (gs t t.ts.length).length = t.ts.length := gs_len
  have hD := mG_D (t := t) (j := t.ts.length) (x := p)
  rw [lft_on]
  refine PC.body Tryd.func30 (by kernel_rfl) rfl (by simp [Tryd.f30]) pure_resA ?_
  simp only [Tryd.f30]
  intro hlen
  simp only [go_sem, List.length_map, and_true, true_and] at hlen
  refine CV.run ?_
  (repeat' (first | ((with_reducible first | apply sg | apply si | apply sq | apply sd) <;> intro hb <;> (try rw [hb]) <;> (try simp only [bq, bz, dtrue, dfalse] at hb) <;> (try simp only [within] at hb) <;> try simp only [go_sem]) | refine And.intro (by first | exact ⟨⟩ | omega | (simp only [I64]; omega)) ?_ | (with_reducible rw [vc_draw_eq]; first | (refine CV.draw (id := 1) sF10z_f30_1 mixed rfl (by kernel_rfl) ?_; delta sF10z_f30_1) | (refine CV.draw (id := 9) sF10z_f30_9 mixed rfl (by kernel_rfl) ?_; delta sF10z_f30_9) | (refine CV.draw (id := 10) sF10z_f30_10 mixed rfl (by kernel_rfl) ?_; delta sF10z_f30_10) | (refine CV.draw (id := 12) sF10z_f30_12 mixed rfl (by kernel_rfl) ?_; delta sF10z_f30_12)) | ((with_reducible first | refine vp h68 ?_ ?_ | refine dc h68 ?_ ?_ | refine vp h75 ?_ ?_ | refine dc h75 ?_ ?_ | refine vp h67 ?_ ?_ | refine dc h67 ?_ ?_ | refine vp h69 ?_ ?_ | refine dc h69 ?_ ?_); focus (first | exact ⟨rfl, .inl ⟨by first | rfl | (simp only [go_sem, AV.pureL, AV.pure]; done), by first | (simp only [go_sem, AV.pureL, AV.pure]; done) | rfl⟩⟩ | exact ⟨rfl, .inr ⟨rfl, by simp only [go_sem]⟩⟩)) | ((with_reducible first | refine dp h68 ?_ ?_ | refine dp h75 ?_ ?_ | refine dp h67 ?_ ?_ | refine dp h69 ?_ ?_); focus (exact ⟨rfl, by first | rfl | (simp only [go_sem, AV.pureL, AV.pure]; done), by first | (simp only [go_sem, AV.pureL, AV.pure]; done) | rfl⟩)) | ((with_reducible first | refine ds h68 ?_ ?_ | refine ds h75 ?_ ?_ | refine ds h67 ?_ ?_ | refine ds h69 ?_ ?_); focus exact ⟨rfl, rfl⟩) | (with_reducible refine vcM_some fun mg => ?_) | (simp only [go_sem])))
  rw [vc_range_eq]
  refine CV.wn (st' := ⟨[(6, .nilS), (7, .int .i64 0), (5, .lp 1 0), (8, .lp 2 0), (10, .lp 3 0), (11, .lp 4 0), (33, .fn 102 [.pp [hG t], .pp [.int .i64 b]])], [.box 28 (cT t) false, .box 3 [.int .i64 p] false, .box 77 [hG t] false, .box 26 [lsA (ag t (sel (onP t b p) 0))] false, .box 38 [.int .i64 (eA (ag t (sel (onP t b p) 0)))] false]⟩) (.base (by (first | exact wk_same (by simp only [go_sem, Int.natCast_add, cn, Int.cast_ofNat_Int, sel, ag, List.foldl_nil, lsA_n, eA_n]) | (refine wk_drop ?_ ?_ ?_ ?_ ?_ <;> simp only [go_sem, Int.natCast_add, cn, Int.cast_ofNat_Int, sel, ag, List.foldl_nil, lsA_n, eA_n])))) ?_
  refine CV.rangeP rfl (by (simp only [go_sem])) [.box 28 (cT t) false, .box 3 [.int .i64 p] false, .box 77 [hG t] false, .box 26 [lsA (ag t (sel (onP t b p) t.ts.length))] false, .box 38 [.int .i64 (eA (ag t (sel (onP t b p) t.ts.length)))] false] rfl (by rcases ag t (sel (onP t b p) t.ts.length) with _ | y <;> (simp only [go_sem, lsA_n, lsA_s])) (by (simp only [go_sem])) (fun l => ?_) ?_
  · have hbl : ∀ m j, belowB m (.box 26 [lsA (ag t (sel (onP t b p) j))] false) := fun m j => by
      rcases ag t (sel (onP t b p) j) with _ | y <;> exact belB rfl
    refine c102_5 t b h8 hv.lp (fun _ => .box 28 (cT t) false) (fun _ => .box 3 [.int .i64 p] false) (fun _ => .box 77 [hG t] false) (fun j => .box 26 [lsA (ag t (sel (onP t b p) j))] false) (fun j => .box 38 [.int .i64 (eA (ag t (sel (onP t b p) j)))] false) (fun _ => belB rfl) (fun _ => belB rfl) (fun _ => belB rfl) (fun _ => hbl _ _) (fun _ => belB rfl) _ _ _ _ _ _ (by (simp only [go_sem])) (fun j hj hs own => ?_) (fun j hj hs => ?_)
    · have hmb := fun q => msk_bnd q 3
      have hu2 : ∀ q, U64 (msk q 3) := fun q => ⟨by have := hmb q; omega, by have := hmb q; omega⟩
      have hth := hs.1
      by_cases a1 : pg t j = p
      · have a1' := eq_true a1
        have e1 := sel_yes (p := onP t b p) (n := j) ⟨hs, a1⟩
        have hdf := msk_diff (hsG t t.ts.length p) (hasG t j)
        have h76 := c76 (fun c => hsG t t.ts.length p c ∧ ¬ hasG t j c)
        rw [lks_sel hth a1] at h76
        have hl3 := lks_len (t := t) (i := j)
        rcases hS : ag t (sel (onP t b p) j) with _ | y
        · have e2 : ag t (sel (onP t b p) (j + 1)) = some (lks t j) := by rw [e1, ag_snoc, hS]; rfl
          refine HCY.body2 (H := [.box 28 (cT t) false, .box 3 [.int .i64 p] false, .box 77 [hG t] false, .box 26 [.nilS] false, .box 38 [.int .i64 3] false]) (H' := [.box 28 (cT t) false, .box 3 [.int .i64 p] false, .box 77 [hG t] false, .box 26 [lsA (ag t (sel (onP t b p) (j + 1)))] false, .box 38 [.int .i64 (eA (ag t (sel (onP t b p) (j + 1))))] false]) (by omega) (by omega) rfl (by (simp only [go_sem])) (by (simp only [go_sem])) rfl rfl ?_
          rw [e2]
          (repeat' (first | ((with_reducible first | apply sg | apply si | apply sq | apply sd) <;> intro hb <;> (try rw [hb]) <;> (try simp only [bq, bz, dtrue, dfalse] at hb) <;> (try simp only [within] at hb) <;> try simp only [go_sem]) | refine And.intro (by first | exact ⟨⟩ | omega | (simp only [I64]; omega)) ?_ | (with_reducible rw [vc_draw_eq]; first | (refine CV.draw (id := 1) sF10z_f30_1 mixed rfl (by kernel_rfl) ?_; delta sF10z_f30_1) | (refine CV.draw (id := 9) sF10z_f30_9 mixed rfl (by kernel_rfl) ?_; delta sF10z_f30_9) | (refine CV.draw (id := 10) sF10z_f30_10 mixed rfl (by kernel_rfl) ?_; delta sF10z_f30_10) | (refine CV.draw (id := 12) sF10z_f30_12 mixed rfl (by kernel_rfl) ?_; delta sF10z_f30_12)) | ((with_reducible first | refine vp h76 ?_ ?_ | refine dc h76 ?_ ?_); focus (first | exact ⟨rfl, .inl ⟨by first | rfl | (simp only [go_sem, encG, a1', hIp, hD, hdf, hu2, AV.pureL, AV.pure]; done), by first | (simp only [go_sem, encG, a1', hIp, hD, hdf, hu2, AV.pureL, AV.pure]; done) | rfl⟩⟩ | exact ⟨rfl, .inr ⟨rfl, by simp only [go_sem, encG, a1', hIp, hD, hdf, hu2]⟩⟩)) | ((with_reducible first | refine dp h76 ?_ ?_); focus (exact ⟨rfl, by first | rfl | (simp only [go_sem, encG, a1', hIp, hD, hdf, hu2, AV.pureL, AV.pure]; done), by first | (simp only [go_sem, encG, a1', hIp, hD, hdf, hu2, AV.pureL, AV.pure]; done) | rfl⟩)) | ((with_reducible first | refine ds h76 ?_ ?_); focus exact ⟨rfl, rfl⟩) | (with_reducible refine vcM_some fun mg => ?_) | (simp only [go_sem, encG, a1', hIp, hD, hdf, hu2])))
          all_goals first
            | omega
            | exact .base (by (first | exact wk_same (by simp only [go_sem, Int.natCast_add, cn, Int.cast_ofNat_Int, lsA_s, eA_s]) | (refine wk_drop ?_ ?_ ?_ ?_ ?_ <;> simp only [go_sem, Int.natCast_add, cn, Int.cast_ofNat_Int, lsA_s, eA_s])))
        · have hy3 := ag_len hS
          have h78 := c78 (lks t j) y
          have h77 := c77 [((lks t j).length : Int) - y.length, cmpL (lks t j) y]
          simp only [lN, List.map_cons, List.map_nil, encN] at h77
          have hcb := cmpL_bnd (a := lks t j) (b := y)
          have hor : (orN [((lks t j).length : Int) - y.length, cmpL (lks t j) y] < 0) = betA (lks t j) y := by
            refine propext ?_
            simp only [orN, betA]
            by_cases q : ((lks t j).length : Int) - y.length = 0
            · rw [if_pos q]
              have hce := cmpL_earlier (a := lks t j) (b := y) (by omega)
              rw [← hce]
              split <;> omega
            · rw [if_neg q]; omega
          refine HCY.body2 (H := [.box 28 (cT t) false, .box 3 [.int .i64 p] false, .box 77 [hG t] false, .box 26 [lN y] false, .box 38 [.int .i64 0] false]) (H' := [.box 28 (cT t) false, .box 3 [.int .i64 p] false, .box 77 [hG t] false, .box 26 [lsA (ag t (sel (onP t b p) (j + 1)))] false, .box 38 [.int .i64 (eA (ag t (sel (onP t b p) (j + 1))))] false]) (by omega) (by omega) rfl (by (simp only [go_sem])) (by (simp only [go_sem])) rfl rfl ?_
          by_cases b1 : betA (lks t j) y
          · have e2 : ag t (sel (onP t b p) (j + 1)) = some (lks t j) := by rw [e1, ag_snoc, hS]; exact if_pos b1
            have hor' := hor.trans (eq_true b1)
            rw [e2]
            (repeat' (first | ((with_reducible first | apply sg | apply si | apply sq | apply sd) <;> intro hb <;> (try rw [hb]) <;> (try simp only [bq, bz, dtrue, dfalse] at hb) <;> (try simp only [within] at hb) <;> try simp only [go_sem]) | refine And.intro (by first | exact ⟨⟩ | omega | (simp only [I64]; omega)) ?_ | (with_reducible rw [vc_draw_eq]; first | (refine CV.draw (id := 1) sF10z_f30_1 mixed rfl (by kernel_rfl) ?_; delta sF10z_f30_1) | (refine CV.draw (id := 9) sF10z_f30_9 mixed rfl (by kernel_rfl) ?_; delta sF10z_f30_9) | (refine CV.draw (id := 10) sF10z_f30_10 mixed rfl (by kernel_rfl) ?_; delta sF10z_f30_10) | (refine CV.draw (id := 12) sF10z_f30_12 mixed rfl (by kernel_rfl) ?_; delta sF10z_f30_12)) | ((with_reducible first | refine vp h76 ?_ ?_ | refine dc h76 ?_ ?_ | refine vp h78 ?_ ?_ | refine dc h78 ?_ ?_ | refine vp h77 ?_ ?_ | refine dc h77 ?_ ?_); focus (first | exact ⟨rfl, .inl ⟨by first | rfl | (simp only [go_sem, encG, a1', hIp, hD, hdf, hu2, hor', List.length_map, AV.pureL, AV.pure]; done), by first | (simp only [go_sem, encG, a1', hIp, hD, hdf, hu2, hor', List.length_map, AV.pureL, AV.pure]; done) | rfl⟩⟩ | exact ⟨rfl, .inr ⟨rfl, by simp only [go_sem, encG, a1', hIp, hD, hdf, hu2, hor', List.length_map]⟩⟩)) | ((with_reducible first | refine dp h76 ?_ ?_ | refine dp h78 ?_ ?_ | refine dp h77 ?_ ?_); focus (exact ⟨rfl, by first | rfl | (simp only [go_sem, encG, a1', hIp, hD, hdf, hu2, hor', List.length_map, AV.pureL, AV.pure]; done), by first | (simp only [go_sem, encG, a1', hIp, hD, hdf, hu2, hor', List.length_map, AV.pureL, AV.pure]; done) | rfl⟩)) | ((with_reducible first | refine ds h76 ?_ ?_ | refine ds h78 ?_ ?_ | refine ds h77 ?_ ?_); focus exact ⟨rfl, rfl⟩) | (with_reducible refine vcM_some fun mg => ?_) | (simp only [go_sem, encG, a1', hIp, hD, hdf, hu2, hor', List.length_map])))
            all_goals first
              | omega
              | exact .base (by (first | exact wk_same (by simp only [go_sem, Int.natCast_add, cn, Int.cast_ofNat_Int, lsA_s, eA_s]) | (refine wk_drop ?_ ?_ ?_ ?_ ?_ <;> simp only [go_sem, Int.natCast_add, cn, Int.cast_ofNat_Int, lsA_s, eA_s])))
              | trace_state
          · have e2 : ag t (sel (onP t b p) (j + 1)) = some y := by rw [e1, ag_snoc, hS]; exact if_neg b1
            have hor' := hor.trans (eq_false b1)
            rw [e2]
            (repeat' (first | ((with_reducible first | apply sg | apply si | apply sq | apply sd) <;> intro hb <;> (try rw [hb]) <;> (try simp only [bq, bz, dtrue, dfalse] at hb) <;> (try simp only [within] at hb) <;> try simp only [go_sem]) | refine And.intro (by first | exact ⟨⟩ | omega | (simp only [I64]; omega)) ?_ | (with_reducible rw [vc_draw_eq]; first | (refine CV.draw (id := 1) sF10z_f30_1 mixed rfl (by kernel_rfl) ?_; delta sF10z_f30_1) | (refine CV.draw (id := 9) sF10z_f30_9 mixed rfl (by kernel_rfl) ?_; delta sF10z_f30_9) | (refine CV.draw (id := 10) sF10z_f30_10 mixed rfl (by kernel_rfl) ?_; delta sF10z_f30_10) | (refine CV.draw (id := 12) sF10z_f30_12 mixed rfl (by kernel_rfl) ?_; delta sF10z_f30_12)) | ((with_reducible first | refine vp h76 ?_ ?_ | refine dc h76 ?_ ?_ | refine vp h78 ?_ ?_ | refine dc h78 ?_ ?_ | refine vp h77 ?_ ?_ | refine dc h77 ?_ ?_); focus (first | exact ⟨rfl, .inl ⟨by first | rfl | (simp only [go_sem, encG, a1', hIp, hD, hdf, hu2, hor', List.length_map, AV.pureL, AV.pure]; done), by first | (simp only [go_sem, encG, a1', hIp, hD, hdf, hu2, hor', List.length_map, AV.pureL, AV.pure]; done) | rfl⟩⟩ | exact ⟨rfl, .inr ⟨rfl, by simp only [go_sem, encG, a1', hIp, hD, hdf, hu2, hor', List.length_map]⟩⟩)) | ((with_reducible first | refine dp h76 ?_ ?_ | refine dp h78 ?_ ?_ | refine dp h77 ?_ ?_); focus (exact ⟨rfl, by first | rfl | (simp only [go_sem, encG, a1', hIp, hD, hdf, hu2, hor', List.length_map, AV.pureL, AV.pure]; done), by first | (simp only [go_sem, encG, a1', hIp, hD, hdf, hu2, hor', List.length_map, AV.pureL, AV.pure]; done) | rfl⟩)) | ((with_reducible first | refine ds h76 ?_ ?_ | refine ds h78 ?_ ?_ | refine ds h77 ?_ ?_); focus exact ⟨rfl, rfl⟩) | (with_reducible refine vcM_some fun mg => ?_) | (simp only [go_sem, encG, a1', hIp, hD, hdf, hu2, hor', List.length_map])))
            all_goals first
              | omega
              | exact .base (by (first | exact wk_same (by simp only [go_sem, Int.natCast_add, cn, Int.cast_ofNat_Int, lsA_s, eA_s]) | (refine wk_drop ?_ ?_ ?_ ?_ ?_ <;> simp only [go_sem, Int.natCast_add, cn, Int.cast_ofNat_Int, lsA_s, eA_s])))
              | trace_state
      · have e1 := sel_no (p := onP t b p) (n := j) fun h => a1 h.2
        rw [e1]
        refine HCY.body2 (H := [.box 28 (cT t) false, .box 3 [.int .i64 p] false, .box 77 [hG t] false, .box 26 [lsA (ag t (sel (onP t b p) j))] false, .box 38 [.int .i64 (eA (ag t (sel (onP t b p) j)))] false]) (H' := [.box 28 (cT t) false, .box 3 [.int .i64 p] false, .box 77 [hG t] false, .box 26 [lsA (ag t (sel (onP t b p) j))] false, .box 38 [.int .i64 (eA (ag t (sel (onP t b p) j)))] false]) (by omega) (by omega) rfl (by rcases ag t (sel (onP t b p) j) with _ | y <;> (simp only [go_sem, lsA_n, lsA_s])) (by (simp only [go_sem])) rfl rfl ?_
        (repeat' (first | ((with_reducible first | apply sg | apply si | apply sq | apply sd) <;> intro hb <;> (try rw [hb]) <;> (try simp only [bq, bz, dtrue, dfalse] at hb) <;> (try simp only [within] at hb) <;> try simp only [go_sem]) | refine And.intro (by first | exact ⟨⟩ | omega | (simp only [I64]; omega)) ?_ | (with_reducible rw [vc_draw_eq]; first | (refine CV.draw (id := 1) sF10z_f30_1 mixed rfl (by kernel_rfl) ?_; delta sF10z_f30_1) | (refine CV.draw (id := 9) sF10z_f30_9 mixed rfl (by kernel_rfl) ?_; delta sF10z_f30_9) | (refine CV.draw (id := 10) sF10z_f30_10 mixed rfl (by kernel_rfl) ?_; delta sF10z_f30_10) | (refine CV.draw (id := 12) sF10z_f30_12 mixed rfl (by kernel_rfl) ?_; delta sF10z_f30_12)) | (with_reducible refine vcM_some fun mg => ?_) | (simp only [go_sem, encG, a1])))
        all_goals first
          | omega
          | exact .base (by (first | exact wk_same (by simp only [go_sem, Int.natCast_add, cn, Int.cast_ofNat_Int, belowV_lsA]) | (refine wk_drop ?_ ?_ ?_ ?_ ?_ <;> simp only [go_sem, Int.natCast_add, cn, Int.cast_ofNat_Int, belowV_lsA])))
    · have e1 := sel_no (p := onP t b p) (n := j) fun h => hs h.1
      exact ⟨rfl, rfl, rfl, by simp only [e1], by simp only [e1]⟩
  · rcases ag t (sel (onP t b p) t.ts.length) with _ | y
    · (repeat' (first | ((with_reducible first | apply sg | apply si | apply sq | apply sd) <;> intro hb <;> (try rw [hb]) <;> (try simp only [bq, bz, dtrue, dfalse] at hb) <;> (try simp only [within] at hb) <;> try simp only [go_sem]) | refine And.intro (by first | exact ⟨⟩ | omega | (simp only [I64]; omega)) ?_ | (with_reducible rw [vc_draw_eq]; first | (refine CV.draw (id := 1) sF10z_f30_1 mixed rfl (by kernel_rfl) ?_; delta sF10z_f30_1) | (refine CV.draw (id := 9) sF10z_f30_9 mixed rfl (by kernel_rfl) ?_; delta sF10z_f30_9) | (refine CV.draw (id := 10) sF10z_f30_10 mixed rfl (by kernel_rfl) ?_; delta sF10z_f30_10) | (refine CV.draw (id := 12) sF10z_f30_12 mixed rfl (by kernel_rfl) ?_; delta sF10z_f30_12)) | (with_reducible refine vcM_some fun mg => ?_) | (simp only [go_sem, lsA_n, eA_n, resA])))
    · (repeat' (first | ((with_reducible first | apply sg | apply si | apply sq | apply sd) <;> intro hb <;> (try rw [hb]) <;> (try simp only [bq, bz, dtrue, dfalse] at hb) <;> (try simp only [within] at hb) <;> try simp only [go_sem]) | refine And.intro (by first | exact ⟨⟩ | omega | (simp only [I64]; omega)) ?_ | (with_reducible rw [vc_draw_eq]; first | (refine CV.draw (id := 1) sF10z_f30_1 mixed rfl (by kernel_rfl) ?_; delta sF10z_f30_1) | (refine CV.draw (id := 9) sF10z_f30_9 mixed rfl (by kernel_rfl) ?_; delta sF10z_f30_9) | (refine CV.draw (id := 10) sF10z_f30_10 mixed rfl (by kernel_rfl) ?_; delta sF10z_f30_10) | (refine CV.draw (id := 12) sF10z_f30_12 mixed rfl (by kernel_rfl) ?_; delta sF10z_f30_12)) | (with_reducible refine vcM_some fun mg => ?_) | (simp only [go_sem, lsA_s, eA_s, resA])))
end Go.Proofs.YtjlopclpofbgbaaDoor

