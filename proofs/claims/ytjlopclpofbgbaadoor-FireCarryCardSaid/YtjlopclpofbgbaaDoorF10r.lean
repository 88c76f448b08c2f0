/- Contracts of functions of the given program, without a condition beyond those that each theorem states; they lead to the given statement. -/
import Derived.Test.YtjlopclpofbgbaaDoorF10q
set_option linter.unusedSimpArgs false
set_option linter.unusedVariables false
set_option maxRecDepth 100000
namespace Go.Proofs.YtjlopclpofbgbaaDoor
open Go Go.Fl
open Classical
def sF10r_f67_12 : List (Nat × Nat) := [(0, 0), (0, 0), (0, 0), (0, 0), (0, 0), (0, 0), (0, 0), (0, 0), (0, 0), (0, 0), (0, 0)]
def sF10r_f67_20 : List (Nat × Nat) := [(0, 0), (0, 0), (0, 0), (0, 0), (0, 0), (0, 0), (0, 0)]
def sF10r_f67_22 : List (Nat × Nat) := [(0, 0), (0, 0), (0, 0), (0, 0), (0, 0), (0, 0), (0, 0), (0, 0), (0, 0), (0, 0), (0, 0)]
def sF10r_f67_23 : List (Nat × Nat) := [(0, 1), (0, 0), (0, 0), (0, 0), (0, 0), (0, 0), (0, 0), (0, 0), (1, 1), (1, 1), (0, 0)]
set_option maxHeartbeats 4000000 in
theorem h67 (t : Town) (hv : validT t) : HCH Tryd.prog 67 [hF t, .bool true] [] fun r H' => ∃ mg n, r = .tup [.lp 2 0, .int .i64 0] ∧ H' = [.box 28 (cT t) false, .mp Tryd.prog mg 91 .u64 n (mG t t.ts.length), .box 93 [.lst false 4 (t.ts.map encT), .lst false 3 (t.ms.map encM), lN t.pl, lN t.ca, lN t.rm, .int .i64 t.mi, .row 3 t.ts.length, .mp mg] false, .row 89 3 (gs t t.ts.length) false] := by
  have h49 := c49 t
  rw [checkT_yes hv] at h49
  have h8 := hv.len
  have hk := hv.things
  refine HCH.bodyN Tryd.func67 (by kernel_rfl) rfl (by simp [Tryd.f67]) ?_
  simp only [Tryd.f67]
  refine CV.run ?_
  (repeat' (first | ((with_reducible first | apply sg | apply si | apply sq | apply sd) <;> intro hb <;> (try rw [hb]) <;> (try simp only [bq, bz, dtrue, dfalse] at hb) <;> (try simp only [within] at hb) <;> try simp only [go_sem]) | refine And.intro (by first | exact ⟨⟩ | omega | (simp only [I64]; omega)) ?_ | (with_reducible rw [vc_draw_eq]; first | (refine CV.draw (id := 12) sF10r_f67_12 mixed rfl (by kernel_rfl) ?_; delta sF10r_f67_12) | (refine CV.draw (id := 20) sF10r_f67_20 mixed rfl (by kernel_rfl) ?_; delta sF10r_f67_20) | (refine CV.draw (id := 22) sF10r_f67_22 mixed rfl (by kernel_rfl) ?_; delta sF10r_f67_22) | (refine CV.draw (id := 23) sF10r_f67_23 mixed rfl (by kernel_rfl) ?_; delta sF10r_f67_23)) | ((with_reducible first | refine vp h49 ?_ ?_ | refine dc h49 ?_ ?_); focus (first | exact ⟨rfl, .inl ⟨by first | rfl | (simp only [go_sem, AV.pureL, AV.pure]; done), by first | (simp only [go_sem, AV.pureL, AV.pure]; done) | rfl⟩⟩ | exact ⟨rfl, .inr ⟨rfl, by simp only [go_sem]⟩⟩)) | ((with_reducible first | refine dp h49 ?_ ?_); focus (exact ⟨rfl, by first | rfl | (simp only [go_sem, AV.pureL, AV.pure]; done), by first | (simp only [go_sem, AV.pureL, AV.pure]; done) | rfl⟩)) | ((with_reducible first | refine ds h49 ?_ ?_); focus exact ⟨rfl, rfl⟩) | (with_reducible refine vcM_some fun mg => ?_) | (simp only [go_sem])))
  refine vc_fx (fun (j : Nat) (x : Nat × (Int → Option Int)) => ⟨[(29, .int .i64 j), (28, .int .i64 t.ts.length), (27, .lst false 4 (t.ts.map encT)), (2, .lp 0 0), (4, .nilP), (5, .int .i64 0), (7, .lp 2 0)], [.box 28 (cT t) false, .mp Tryd.prog mg 91 .u64 x.1 x.2, .box 93 [.lst false 4 (t.ts.map encT), .lst false 3 (t.ms.map encM), lN t.pl, lN t.ca, lN t.rm, .int .i64 t.mi, .row 3 j, .mp mg] false, .row 89 3 (gs t j) false]⟩) t.ts.length (fun j x => x.1 ≤ j ∧ x.2 = mG t j) (0, fun _ => none) (.nilB 2 6 89 3 rfl rfl (by omega) (.base (by (first | exact wk_same (by simp only [go_sem, Int.natCast_add, cn, Int.cast_ofNat_Int, gs, List.range_zero, List.map_nil]) | (refine wk_drop ?_ ?_ ?_ ?_ ?_ <;> simp only [go_sem, Int.natCast_add, cn, Int.cast_ofNat_Int, gs, List.range_zero, List.map_nil]))))) ⟨by omega, by funext x; simp [mG, inG]⟩ ?_
  rintro j ⟨n, f⟩ hj ⟨hn, hf⟩
  simp only at hn hf ⊢
  rcases Nat.lt_or_ge j t.ts.length with hlt | hge
  · obtain ⟨x, hx⟩ := get_of hlt
    have hlt' : (j : Int) < t.ts.length := by omega
    have eo : ofT t j = x.of := ofT_of (by simpa using hx)
    have ea : atT t j = x.at_ := atT_of (by simpa using hx)
    have hol := of_lt hk (i := j) (by omega) hlt'
    rw [eo] at hol
    have gl : (gs t j).length = j := gs_len
    by_cases h1 : x.of = -1
    · have hpg : pg t j = j := pg_root (by rw [eo]; exact h1)
      by_cases h2 : x.at_ ≤ t.mi
      · (repeat' (first | ((with_reducible first | apply sg | apply si | apply sq | apply sd) <;> intro hb <;> (try rw [hb]) <;> (try simp only [bq, bz, dtrue, dfalse] at hb) <;> (try simp only [within] at hb) <;> try simp only [go_sem]) | refine And.intro (by first | exact ⟨⟩ | omega | (simp only [I64]; omega)) ?_ | (with_reducible rw [vc_draw_eq]; first | (refine CV.draw (id := 12) sF10r_f67_12 mixed rfl (by kernel_rfl) ?_; delta sF10r_f67_12) | (refine CV.draw (id := 20) sF10r_f67_20 mixed rfl (by kernel_rfl) ?_; delta sF10r_f67_20) | (refine CV.draw (id := 22) sF10r_f67_22 mixed rfl (by kernel_rfl) ?_; delta sF10r_f67_22) | (refine CV.draw (id := 23) sF10r_f67_23 mixed rfl (by kernel_rfl) ?_; delta sF10r_f67_23)) | (with_reducible refine vcM_some fun mg => ?_) | (simp only [go_sem, hlt', hx, h1, h2, encT, List.length_map])))
        have hth : there t j := by unfold there; rw [ea]; exact h2
        have hmk : msk (hasG t j) 3 = msk (hAt t j) 3 := msk_congr 3 fun c _ => ⟨fun h => h.2, fun h => ⟨hth, h⟩⟩
        have eg : gs t (j + 1) = gs t j ++ [[.int .i64 (pg t j), .int .i64 1, .int .u64 (msk (hAt t j) 3)]] := by
          rw [gs_succ, encG, if_pos hth, hmk]
        refine vc_for (fun k => ⟨[(55, .int .i64 k), (2, .lp 0 0), (4, .nilP), (5, .int .i64 0), (7, .lp 2 0), (8, .int .i64 j), (9, .lp 4 0), (10, .lp 5 0), (27, .lst false 4 (t.ts.map encT)), (28, .int .i64 t.ts.length), (29, .int .i64 j)], [.box 28 (cT t) false, .mp Tryd.prog mg 91 .u64 n f, .box 93 [.lst false 4 (t.ts.map encT), .lst false 3 (t.ms.map encM), lN t.pl, lN t.ca, lN t.rm, .int .i64 t.mi, .row 3 j, .mp mg] false, .row 89 3 (gs t j) false, .box 68 (encT x) false, .box 89 [.int .i64 (pg t j), .int .i64 1, .int .u64 (msk (hAt t j) k)] false]⟩) 3 (fun _ => True) (by (first | exact wk_same (by simp only [go_sem, Int.natCast_add, cn, Int.cast_ofNat_Int, hpg, h1, encT, msk, belowB_mp, gs_pure]) | (refine wk_drop ?_ ?_ ?_ ?_ ?_ <;> simp only [go_sem, Int.natCast_add, cn, Int.cast_ofNat_Int, hpg, h1, encT, msk, belowB_mp, gs_pure]))) trivial ?_
        intro k hk _
        rcases Nat.lt_or_ge k 3 with hkl | hkg
        · have hkl' : (k : Int) < 3 := by omega
          have h101 := c101 t.ts t.ms j k t.mi (hAt t j k, 0) (by rw [answer_yes ⟨hv.1, by unfold within; omega, by unfold within; omega, hv.2.2.2.2.2.2.2.1⟩]; rfl)
          simp only at h101
          have hmb := msk_bnd (hAt t j) k
          have h2k : (2 : Int) ^ k ≤ 4 := by
            have : k = 0 ∨ k = 1 ∨ k = 2 := by omega
            rcases this with rfl | rfl | rfl <;> decide
          have hu1 : U64 (1 * 2 ^ k) := ⟨by omega, by omega⟩
          have hu2 : U64 (msk (hAt t j) k) := ⟨by omega, by omega⟩
          have hst := msk_set (hAt t j) hkl
          by_cases ha : hAt t j k
          · have e := msk_yes (p := hAt t j) ha
            rw [decide_eq_true ha] at h101
            (repeat' (first | ((with_reducible first | apply sg | apply si | apply sq | apply sd) <;> intro hb <;> (try rw [hb]) <;> (try simp only [bq, bz, dtrue, dfalse] at hb) <;> (try simp only [within] at hb) <;> try simp only [go_sem]) | refine And.intro (by first | exact ⟨⟩ | omega | (simp only [I64]; omega)) ?_ | (with_reducible rw [vc_draw_eq]; first | (refine CV.draw (id := 12) sF10r_f67_12 mixed rfl (by kernel_rfl) ?_; delta sF10r_f67_12) | (refine CV.draw (id := 20) sF10r_f67_20 mixed rfl (by kernel_rfl) ?_; delta sF10r_f67_20) | (refine CV.draw (id := 22) sF10r_f67_22 mixed rfl (by kernel_rfl) ?_; delta sF10r_f67_22) | (refine CV.draw (id := 23) sF10r_f67_23 mixed rfl (by kernel_rfl) ?_; delta sF10r_f67_23)) | ((with_reducible first | refine vp h101 ?_ ?_ | refine dc h101 ?_ ?_); focus (first | exact ⟨rfl, .inl ⟨by first | rfl | (simp only [go_sem, hkl', hst, hu1, hu2, encT, List.length_map, AV.pureL, AV.pure]; done), by first | (simp only [go_sem, hkl', hst, hu1, hu2, encT, List.length_map, AV.pureL, AV.pure]; done) | rfl⟩⟩ | exact ⟨rfl, .inr ⟨rfl, by simp only [go_sem, hkl', hst, hu1, hu2, encT, List.length_map]⟩⟩)) | ((with_reducible first | refine dp h101 ?_ ?_); focus (exact ⟨rfl, by first | rfl | (simp only [go_sem, hkl', hst, hu1, hu2, encT, List.length_map, AV.pureL, AV.pure]; done), by first | (simp only [go_sem, hkl', hst, hu1, hu2, encT, List.length_map, AV.pureL, AV.pure]; done) | rfl⟩)) | ((with_reducible first | refine ds h101 ?_ ?_); focus exact ⟨rfl, rfl⟩) | (with_reducible refine vcM_some fun mg => ?_) | (simp only [go_sem, hkl', hst, hu1, hu2, encT, List.length_map])))
            exact (by (first | exact wk_same (by simp only [go_sem, Int.natCast_add, cn, Int.cast_ofNat_Int, e, encT]) | (refine wk_drop ?_ ?_ ?_ ?_ ?_ <;> simp only [go_sem, Int.natCast_add, cn, Int.cast_ofNat_Int, e, encT])))
          · have e := msk_not (p := hAt t j) ha
            rw [decide_eq_false ha] at h101
            (repeat' (first | ((with_reducible first | apply sg | apply si | apply sq | apply sd) <;> intro hb <;> (try rw [hb]) <;> (try simp only [bq, bz, dtrue, dfalse] at hb) <;> (try simp only [within] at hb) <;> try simp only [go_sem]) | refine And.intro (by first | exact ⟨⟩ | omega | (simp only [I64]; omega)) ?_ | (with_reducible rw [vc_draw_eq]; first | (refine CV.draw (id := 12) sF10r_f67_12 mixed rfl (by kernel_rfl) ?_; delta sF10r_f67_12) | (refine CV.draw (id := 20) sF10r_f67_20 mixed rfl (by kernel_rfl) ?_; delta sF10r_f67_20) | (refine CV.draw (id := 22) sF10r_f67_22 mixed rfl (by kernel_rfl) ?_; delta sF10r_f67_22) | (refine CV.draw (id := 23) sF10r_f67_23 mixed rfl (by kernel_rfl) ?_; delta sF10r_f67_23)) | ((with_reducible first | refine vp h101 ?_ ?_ | refine dc h101 ?_ ?_); focus (first | exact ⟨rfl, .inl ⟨by first | rfl | (simp only [go_sem, hkl', encT, List.length_map, AV.pureL, AV.pure]; done), by first | (simp only [go_sem, hkl', encT, List.length_map, AV.pureL, AV.pure]; done) | rfl⟩⟩ | exact ⟨rfl, .inr ⟨rfl, by simp only [go_sem, hkl', encT, List.length_map]⟩⟩)) | ((with_reducible first | refine dp h101 ?_ ?_); focus (exact ⟨rfl, by first | rfl | (simp only [go_sem, hkl', encT, List.length_map, AV.pureL, AV.pure]; done), by first | (simp only [go_sem, hkl', encT, List.length_map, AV.pureL, AV.pure]; done) | rfl⟩)) | ((with_reducible first | refine ds h101 ?_ ?_); focus exact ⟨rfl, rfl⟩) | (with_reducible refine vcM_some fun mg => ?_) | (simp only [go_sem, hkl', encT, List.length_map])))
            exact (by (first | exact wk_same (by simp only [go_sem, Int.natCast_add, cn, Int.cast_ofNat_Int, e, encT]) | (refine wk_drop ?_ ?_ ?_ ?_ ?_ <;> simp only [go_sem, Int.natCast_add, cn, Int.cast_ofNat_Int, e, encT])))
        · have hkg' : ¬ (k : Int) < 3 := by omega
          have : k = 3 := by omega
          subst this
          have hmb := msk_bnd (hAt t j) 3
          have hu2 : U64 (msk (hAt t j) 3) := ⟨by omega, by omega⟩
          have hu3 : ∀ p, U64 (msk p 3) := fun p => by have := msk_bnd p 3; exact ⟨by omega, by omega⟩
          have hIp : I64 (pg t j) = True := eq_true (by have := pg_ok hv.things (j + 1) j (by omega) (by omega) hlt'; simp only [I64]; omega)
          have hfp : (f (pg t j)).getD 0 = msk (hsG t j (pg t j)) 3 := by rw [hf]; exact mG_D
          have hor := msk_or (hsG t j (pg t j)) (hAt t j)
          have hwf : (Lit.int .u64 (msk (fun c => hsG t j (pg t j) c ∨ hAt t j c) 3)).wf = true := by
            have := hu3 (fun c => hsG t j (pg t j) c ∨ hAt t j c)
            unfold U64 at this
            simp [Lit.wf, IntKind.min, IntKind.max, IntKind.signed, IntKind.bits]
            omega
          (repeat' (first | ((with_reducible first | apply sg | apply si | apply sq | apply sd) <;> intro hb <;> (try rw [hb]) <;> (try simp only [bq, bz, dtrue, dfalse] at hb) <;> (try simp only [within] at hb) <;> try simp only [go_sem]) | refine And.intro (by first | exact ⟨⟩ | omega | (simp only [I64]; omega)) ?_ | (with_reducible rw [vc_draw_eq]; first | (refine CV.draw (id := 12) sF10r_f67_12 mixed rfl (by kernel_rfl) ?_; delta sF10r_f67_12) | (refine CV.draw (id := 20) sF10r_f67_20 mixed rfl (by kernel_rfl) ?_; delta sF10r_f67_20) | (refine CV.draw (id := 22) sF10r_f67_22 mixed rfl (by kernel_rfl) ?_; delta sF10r_f67_22) | (refine CV.draw (id := 23) sF10r_f67_23 mixed rfl (by kernel_rfl) ?_; delta sF10r_f67_23)) | (with_reducible refine vcM_some fun mg => ?_) | (simp only [go_sem, hkg', hIp, hfp, hu2, hu3, hor, hwf, gl, encT, List.length_map])))
          refine ⟨(n + 1, fun z => if z = pg t j then some (msk (fun c => hsG t j (pg t j) c ∨ hAt t j c) 3) else f z), hlt, .base (by (first | exact wk_same (by simp only [go_sem, Int.natCast_add, cn, Int.cast_ofNat_Int, eg.symm]) | (refine wk_drop ?_ ?_ ?_ ?_ ?_ <;> simp only [go_sem, Int.natCast_add, cn, Int.cast_ofNat_Int, eg.symm]))), by simp only; omega, ?_⟩
          funext z
          simp only
          rw [mG_yes hth, hmk, hor, hf]
      · have hth : ¬ there t j := by unfold there; rw [ea]; exact h2
        have eg : gs t (j + 1) = gs t j ++ [[.int .i64 j, .int .i64 0, .int .u64 0]] := by
          rw [gs_succ, encG, hpg, if_neg hth, msk_no 3 fun c _ h => hth h.1]
        (repeat' (first | ((with_reducible first | apply sg | apply si | apply sq | apply sd) <;> intro hb <;> (try rw [hb]) <;> (try simp only [bq, bz, dtrue, dfalse] at hb) <;> (try simp only [within] at hb) <;> try simp only [go_sem]) | refine And.intro (by first | exact ⟨⟩ | omega | (simp only [I64]; omega)) ?_ | (with_reducible rw [vc_draw_eq]; first | (refine CV.draw (id := 12) sF10r_f67_12 mixed rfl (by kernel_rfl) ?_; delta sF10r_f67_12) | (refine CV.draw (id := 20) sF10r_f67_20 mixed rfl (by kernel_rfl) ?_; delta sF10r_f67_20) | (refine CV.draw (id := 22) sF10r_f67_22 mixed rfl (by kernel_rfl) ?_; delta sF10r_f67_22) | (refine CV.draw (id := 23) sF10r_f67_23 mixed rfl (by kernel_rfl) ?_; delta sF10r_f67_23)) | (with_reducible refine vcM_some fun mg => ?_) | (simp only [go_sem, hlt', hx, h1, h2, encT, List.length_map])))
        refine ⟨(n, f), hlt, .base (by (first | exact wk_same (by simp only [go_sem, Int.natCast_add, cn, Int.cast_ofNat_Int, eg.symm, belowB_mp, gs_pure]) | (refine wk_drop ?_ ?_ ?_ ?_ ?_ <;> simp only [go_sem, Int.natCast_add, cn, Int.cast_ofNat_Int, eg.symm, belowB_mp, gs_pure]))), by simp only; omega, ?_⟩
        funext z; simp only [hf]; rw [mG_no hth]
    · have hpg' : pg t j = pg t x.of := by rw [pg_up hk (by omega) hlt' (by rw [eo]; exact h1), eo]
      have hoj : x.of < j := by omega
      have hoj2 : x.of.toNat < j := by omega
      have hog := gs_get (t := t) hoj2
      have hcast : ((x.of.toNat : Nat) : Int) = x.of := by omega
      rw [encG, hcast, ← hpg'] at hog
      have hpg : (j : Int) = j := rfl
      by_cases h2 : x.at_ ≤ t.mi
      · (repeat' (first | ((with_reducible first | apply sg | apply si | apply sq | apply sd) <;> intro hb <;> (try rw [hb]) <;> (try simp only [bq, bz, dtrue, dfalse] at hb) <;> (try simp only [within] at hb) <;> try simp only [go_sem]) | refine And.intro (by first | exact ⟨⟩ | omega | (simp only [I64]; omega)) ?_ | (with_reducible rw [vc_draw_eq]; first | (refine CV.draw (id := 12) sF10r_f67_12 mixed rfl (by kernel_rfl) ?_; delta sF10r_f67_12) | (refine CV.draw (id := 20) sF10r_f67_20 mixed rfl (by kernel_rfl) ?_; delta sF10r_f67_20) | (refine CV.draw (id := 22) sF10r_f67_22 mixed rfl (by kernel_rfl) ?_; delta sF10r_f67_22) | (refine CV.draw (id := 23) sF10r_f67_23 mixed rfl (by kernel_rfl) ?_; delta sF10r_f67_23)) | (with_reducible refine vcM_some fun mg => ?_) | (simp only [go_sem, hlt', hx, h1, h2, hoj, hoj2, hog, encT, List.length_map])))
        have hth : there t j := by unfold there; rw [ea]; exact h2
        have hmk : msk (hasG t j) 3 = msk (hAt t j) 3 := msk_congr 3 fun c _ => ⟨fun h => h.2, fun h => ⟨hth, h⟩⟩
        have eg : gs t (j + 1) = gs t j ++ [[.int .i64 (pg t j), .int .i64 1, .int .u64 (msk (hAt t j) 3)]] := by
          rw [gs_succ, encG, if_pos hth, hmk]
        refine vc_for (fun k => ⟨[(55, .int .i64 k), (2, .lp 0 0), (4, .nilP), (5, .int .i64 0), (7, .lp 2 0), (8, .int .i64 j), (9, .lp 4 0), (10, .lp 5 0), (27, .lst false 4 (t.ts.map encT)), (28, .int .i64 t.ts.length), (29, .int .i64 j)], [.box 28 (cT t) false, .mp Tryd.prog mg 91 .u64 n f, .box 93 [.lst false 4 (t.ts.map encT), .lst false 3 (t.ms.map encM), lN t.pl, lN t.ca, lN t.rm, .int .i64 t.mi, .row 3 j, .mp mg] false, .row 89 3 (gs t j) false, .box 68 (encT x) false, .box 89 [.int .i64 (pg t j), .int .i64 1, .int .u64 (msk (hAt t j) k)] false]⟩) 3 (fun _ => True) (by (first | exact wk_same (by simp only [go_sem, Int.natCast_add, cn, Int.cast_ofNat_Int, hpg, h1, encT, msk, belowB_mp, gs_pure]) | (refine wk_drop ?_ ?_ ?_ ?_ ?_ <;> simp only [go_sem, Int.natCast_add, cn, Int.cast_ofNat_Int, hpg, h1, encT, msk, belowB_mp, gs_pure]))) trivial ?_
        intro k hk _
        rcases Nat.lt_or_ge k 3 with hkl | hkg
        · have hkl' : (k : Int) < 3 := by omega
          have h101 := c101 t.ts t.ms j k t.mi (hAt t j k, 0) (by rw [answer_yes ⟨hv.1, by unfold within; omega, by unfold within; omega, hv.2.2.2.2.2.2.2.1⟩]; rfl)
          simp only at h101
          have hmb := msk_bnd (hAt t j) k
          have h2k : (2 : Int) ^ k ≤ 4 := by
            have : k = 0 ∨ k = 1 ∨ k = 2 := by omega
            rcases this with rfl | rfl | rfl <;> decide
          have hu1 : U64 (1 * 2 ^ k) := ⟨by omega, by omega⟩
          have hu2 : U64 (msk (hAt t j) k) := ⟨by omega, by omega⟩
          have hst := msk_set (hAt t j) hkl
          by_cases ha : hAt t j k
          · have e := msk_yes (p := hAt t j) ha
            rw [decide_eq_true ha] at h101
            (repeat' (first | ((with_reducible first | apply sg | apply si | apply sq | apply sd) <;> intro hb <;> (try rw [hb]) <;> (try simp only [bq, bz, dtrue, dfalse] at hb) <;> (try simp only [within] at hb) <;> try simp only [go_sem]) | refine And.intro (by first | exact ⟨⟩ | omega | (simp only [I64]; omega)) ?_ | (with_reducible rw [vc_draw_eq]; first | (refine CV.draw (id := 12) sF10r_f67_12 mixed rfl (by kernel_rfl) ?_; delta sF10r_f67_12) | (refine CV.draw (id := 20) sF10r_f67_20 mixed rfl (by kernel_rfl) ?_; delta sF10r_f67_20) | (refine CV.draw (id := 22) sF10r_f67_22 mixed rfl (by kernel_rfl) ?_; delta sF10r_f67_22) | (refine CV.draw (id := 23) sF10r_f67_23 mixed rfl (by kernel_rfl) ?_; delta sF10r_f67_23)) | ((with_reducible first | refine vp h101 ?_ ?_ | refine dc h101 ?_ ?_); focus (first | exact ⟨rfl, .inl ⟨by first | rfl | (simp only [go_sem, hkl', hst, hu1, hu2, encT, List.length_map, AV.pureL, AV.pure]; done), by first | (simp only [go_sem, hkl', hst, hu1, hu2, encT, List.length_map, AV.pureL, AV.pure]; done) | rfl⟩⟩ | exact ⟨rfl, .inr ⟨rfl, by simp only [go_sem, hkl', hst, hu1, hu2, encT, List.length_map]⟩⟩)) | ((with_reducible first | refine dp h101 ?_ ?_); focus (exact ⟨rfl, by first | rfl | (simp only [go_sem, hkl', hst, hu1, hu2, encT, List.length_map, AV.pureL, AV.pure]; done), by first | (simp only [go_sem, hkl', hst, hu1, hu2, encT, List.length_map, AV.pureL, AV.pure]; done) | rfl⟩)) | ((with_reducible first | refine ds h101 ?_ ?_); focus exact ⟨rfl, rfl⟩) | (with_reducible refine vcM_some fun mg => ?_) | (simp only [go_sem, hkl', hst, hu1, hu2, encT, List.length_map])))
            exact (by (first | exact wk_same (by simp only [go_sem, Int.natCast_add, cn, Int.cast_ofNat_Int, e, encT]) | (refine wk_drop ?_ ?_ ?_ ?_ ?_ <;> simp only [go_sem, Int.natCast_add, cn, Int.cast_ofNat_Int, e, encT])))
          · have e := msk_not (p := hAt t j) ha
            rw [decide_eq_false ha] at h101
            (repeat' (first | ((with_reducible first | apply sg | apply si | apply sq | apply sd) <;> intro hb <;> (try rw [hb]) <;> (try simp only [bq, bz, dtrue, dfalse] at hb) <;> (try simp only [within] at hb) <;> try simp only [go_sem]) | refine And.intro (by first | exact ⟨⟩ | omega | (simp only [I64]; omega)) ?_ | (with_reducible rw [vc_draw_eq]; first | (refine CV.draw (id := 12) sF10r_f67_12 mixed rfl (by kernel_rfl) ?_; delta sF10r_f67_12) | (refine CV.draw (id := 20) sF10r_f67_20 mixed rfl (by kernel_rfl) ?_; delta sF10r_f67_20) | (refine CV.draw (id := 22) sF10r_f67_22 mixed rfl (by kernel_rfl) ?_; delta sF10r_f67_22) | (refine CV.draw (id := 23) sF10r_f67_23 mixed rfl (by kernel_rfl) ?_; delta sF10r_f67_23)) | ((with_reducible first | refine vp h101 ?_ ?_ | refine dc h101 ?_ ?_); focus (first | exact ⟨rfl, .inl ⟨by first | rfl | (simp only [go_sem, hkl', encT, List.length_map, AV.pureL, AV.pure]; done), by first | (simp only [go_sem, hkl', encT, List.length_map, AV.pureL, AV.pure]; done) | rfl⟩⟩ | exact ⟨rfl, .inr ⟨rfl, by simp only [go_sem, hkl', encT, List.length_map]⟩⟩)) | ((with_reducible first | refine dp h101 ?_ ?_); focus (exact ⟨rfl, by first | rfl | (simp only [go_sem, hkl', encT, List.length_map, AV.pureL, AV.pure]; done), by first | (simp only [go_sem, hkl', encT, List.length_map, AV.pureL, AV.pure]; done) | rfl⟩)) | ((with_reducible first | refine ds h101 ?_ ?_); focus exact ⟨rfl, rfl⟩) | (with_reducible refine vcM_some fun mg => ?_) | (simp only [go_sem, hkl', encT, List.length_map])))
            exact (by (first | exact wk_same (by simp only [go_sem, Int.natCast_add, cn, Int.cast_ofNat_Int, e, encT]) | (refine wk_drop ?_ ?_ ?_ ?_ ?_ <;> simp only [go_sem, Int.natCast_add, cn, Int.cast_ofNat_Int, e, encT])))
        · have hkg' : ¬ (k : Int) < 3 := by omega
          have : k = 3 := by omega
          subst this
          have hmb := msk_bnd (hAt t j) 3
          have hu2 : U64 (msk (hAt t j) 3) := ⟨by omega, by omega⟩
          have hu3 : ∀ p, U64 (msk p 3) := fun p => by have := msk_bnd p 3; exact ⟨by omega, by omega⟩
          have hIp : I64 (pg t j) = True := eq_true (by have := pg_ok hv.things (j + 1) j (by omega) (by omega) hlt'; simp only [I64]; omega)
          have hfp : (f (pg t j)).getD 0 = msk (hsG t j (pg t j)) 3 := by rw [hf]; exact mG_D
          have hor := msk_or (hsG t j (pg t j)) (hAt t j)
          have hwf : (Lit.int .u64 (msk (fun c => hsG t j (pg t j) c ∨ hAt t j c) 3)).wf = true := by
            have := hu3 (fun c => hsG t j (pg t j) c ∨ hAt t j c)
            unfold U64 at this
            simp [Lit.wf, IntKind.min, IntKind.max, IntKind.signed, IntKind.bits]
            omega
          (repeat' (first | ((with_reducible first | apply sg | apply si | apply sq | apply sd) <;> intro hb <;> (try rw [hb]) <;> (try simp only [bq, bz, dtrue, dfalse] at hb) <;> (try simp only [within] at hb) <;> try simp only [go_sem]) | refine And.intro (by first | exact ⟨⟩ | omega | (simp only [I64]; omega)) ?_ | (with_reducible rw [vc_draw_eq]; first | (refine CV.draw (id := 12) sF10r_f67_12 mixed rfl (by kernel_rfl) ?_; delta sF10r_f67_12) | (refine CV.draw (id := 20) sF10r_f67_20 mixed rfl (by kernel_rfl) ?_; delta sF10r_f67_20) | (refine CV.draw (id := 22) sF10r_f67_22 mixed rfl (by kernel_rfl) ?_; delta sF10r_f67_22) | (refine CV.draw (id := 23) sF10r_f67_23 mixed rfl (by kernel_rfl) ?_; delta sF10r_f67_23)) | (with_reducible refine vcM_some fun mg => ?_) | (simp only [go_sem, hkg', hIp, hfp, hu2, hu3, hor, hwf, gl, encT, List.length_map])))
          refine ⟨(n + 1, fun z => if z = pg t j then some (msk (fun c => hsG t j (pg t j) c ∨ hAt t j c) 3) else f z), hlt, .base (by (first | exact wk_same (by simp only [go_sem, Int.natCast_add, cn, Int.cast_ofNat_Int, eg.symm]) | (refine wk_drop ?_ ?_ ?_ ?_ ?_ <;> simp only [go_sem, Int.natCast_add, cn, Int.cast_ofNat_Int, eg.symm]))), by simp only; omega, ?_⟩
          funext z
          simp only
          rw [mG_yes hth, hmk, hor, hf]
      · have hth : ¬ there t j := by unfold there; rw [ea]; exact h2
        have eg : gs t (j + 1) = gs t j ++ [[.int .i64 (pg t j), .int .i64 0, .int .u64 0]] := by
          rw [gs_succ, encG, if_neg hth, msk_no 3 fun c _ h => hth h.1]
        (repeat' (first | ((with_reducible first | apply sg | apply si | apply sq | apply sd) <;> intro hb <;> (try rw [hb]) <;> (try simp only [bq, bz, dtrue, dfalse] at hb) <;> (try simp only [within] at hb) <;> try simp only [go_sem]) | refine And.intro (by first | exact ⟨⟩ | omega | (simp only [I64]; omega)) ?_ | (with_reducible rw [vc_draw_eq]; first | (refine CV.draw (id := 12) sF10r_f67_12 mixed rfl (by kernel_rfl) ?_; delta sF10r_f67_12) | (refine CV.draw (id := 20) sF10r_f67_20 mixed rfl (by kernel_rfl) ?_; delta sF10r_f67_20) | (refine CV.draw (id := 22) sF10r_f67_22 mixed rfl (by kernel_rfl) ?_; delta sF10r_f67_22) | (refine CV.draw (id := 23) sF10r_f67_23 mixed rfl (by kernel_rfl) ?_; delta sF10r_f67_23)) | (with_reducible refine vcM_some fun mg => ?_) | (simp only [go_sem, hlt', hx, h1, h2, hoj, hoj2, hog, encT, List.length_map])))
        refine ⟨(n, f), hlt, .base (by (first | exact wk_same (by simp only [go_sem, Int.natCast_add, cn, Int.cast_ofNat_Int, eg.symm, belowB_mp, gs_pure]) | (refine wk_drop ?_ ?_ ?_ ?_ ?_ <;> simp only [go_sem, Int.natCast_add, cn, Int.cast_ofNat_Int, eg.symm, belowB_mp, gs_pure]))), by simp only; omega, ?_⟩
        funext z; simp only [hf]; rw [mG_no hth]
  · have hge' : ¬ (j : Int) < t.ts.length := by omega
    have : j = t.ts.length := by omega
    subst this
    (repeat' (first | ((with_reducible first | apply sg | apply si | apply sq | apply sd) <;> intro hb <;> (try rw [hb]) <;> (try simp only [bq, bz, dtrue, dfalse] at hb) <;> (try simp only [within] at hb) <;> try simp only [go_sem]) | refine And.intro (by first | exact ⟨⟩ | omega | (simp only [I64]; omega)) ?_ | (with_reducible rw [vc_draw_eq]; first | (refine CV.draw (id := 12) sF10r_f67_12 mixed rfl (by kernel_rfl) ?_; delta sF10r_f67_12) | (refine CV.draw (id := 20) sF10r_f67_20 mixed rfl (by kernel_rfl) ?_; delta sF10r_f67_20) | (refine CV.draw (id := 22) sF10r_f67_22 mixed rfl (by kernel_rfl) ?_; delta sF10r_f67_22) | (refine CV.draw (id := 23) sF10r_f67_23 mixed rfl (by kernel_rfl) ?_; delta sF10r_f67_23)) | (with_reducible refine vcM_some fun mg => ?_) | (simp only [go_sem, hge', List.length_map])))
    subst hf
    exact ⟨_, .base (wk_same (env' := [(4, .lp 2 0), (5, .int .i64 0)]) (by (simp only [go_sem]))), mg, n, rfl, rfl⟩
def lexlt (a b : Int × Int) : Prop := a.1 < b.1 ∨ a.1 = b.1 ∧ a.2 < b.2
def orN : List Int → Int
  | [] => 0
  | x :: r => if x = 0 then orN r else x
theorem orN_at : ∀ {l : List Int} {j : Nat} {x : Int}, l[j]? = some x → x ≠ 0 → (∀ i, i < j → l[i]? = some 0) → orN l = x
  | [], j, x, h, _, _ => by simp at h
  | y :: l, 0, x, h, h2, _ => by simp at h; subst h; simp [orN, h2]
  | y :: l, j + 1, x, h, h2, h3 => by
    have h0 := h3 0 (by omega)
    simp at h0; subst h0
    simp only [orN, if_true]
    exact orN_at (j := j) (by simpa using h) h2 fun i hi => by have := h3 (i + 1) (by omega); simpa using this
theorem orN_no : ∀ {l : List Int}, (∀ i, i < l.length → l[i]? = some 0) → orN l = 0
  | [], _ => rfl
  | y :: l, h => by
    have h0 := h 0 (by simp)
    simp at h0; subst h0
    simp only [orN, if_true]
    exact orN_no fun i hi => by have := h (i + 1) (by simp; omega); simpa using this
theorem c77 (l : List Int) : PC Tryd.prog 77 [lN l] (.int .i64 (orN l)) := by
  refine PC.body Tryd.func77 (by kernel_rfl) rfl (by simp [Tryd.f77]) rfl ?_
  simp only [Tryd.f77]
  intro hlen
  simp only [go_sem, List.length_map, and_true, true_and] at hlen
  refine CV.run ?_
  (repeat' (first | ((with_reducible first | apply sg | apply si | apply sq | apply sd) <;> intro hb <;> (try rw [hb]) <;> (try simp only [bq, bz, dtrue, dfalse] at hb) <;> (try simp only [within] at hb) <;> try simp only [go_sem]) | refine And.intro (by first | exact ⟨⟩ | omega | (simp only [I64]; omega)) ?_ | (with_reducible refine vcM_some fun mg => ?_) | (simp only [go_sem])))
  refine vc_for (fun j => ⟨[(8, .int .i64 j), (7, .int .i64 l.length), (6, lN l), (2, .int .i64 0), (3, .int .i64 0)], []⟩) l.length (fun j => ∀ i, i < j → l[i]? = some 0) (by (first | exact wk_same (by simp only [go_sem, Int.natCast_add, cn, Int.cast_ofNat_Int]) | (refine wk_drop ?_ ?_ ?_ ?_ ?_ <;> simp only [go_sem, Int.natCast_add, cn, Int.cast_ofNat_Int]))) (fun i h => by omega) ?_
  intro j hj hx
  rcases Nat.lt_or_ge j l.length with hlt | hge
  · obtain ⟨x, hx1⟩ := get_of hlt
    have hlt' : (j : Int) < l.length := by omega
    by_cases h : x = 0
    · (repeat' (first | ((with_reducible first | apply sg | apply si | apply sq | apply sd) <;> intro hb <;> (try rw [hb]) <;> (try simp only [bq, bz, dtrue, dfalse] at hb) <;> (try simp only [within] at hb) <;> try simp only [go_sem]) | refine And.intro (by first | exact ⟨⟩ | omega | (simp only [I64]; omega)) ?_ | (with_reducible refine vcM_some fun mg => ?_) | (simp only [go_sem, hlt', hx1, h, encN, List.length_map])))
      refine ⟨by (first | exact wk_same (by simp only [go_sem, Int.natCast_add, cn, Int.cast_ofNat_Int]) | (refine wk_drop ?_ ?_ ?_ ?_ ?_ <;> simp only [go_sem, Int.natCast_add, cn, Int.cast_ofNat_Int])), fun i hi => ?_⟩
      rcases Nat.lt_or_ge i j with q | q
      · exact hx i q
      · have : i = j := by omega
        subst this; rw [hx1, h]
    · rw [orN_at hx1 h hx]
      (repeat' (first | ((with_reducible first | apply sg | apply si | apply sq | apply sd) <;> intro hb <;> (try rw [hb]) <;> (try simp only [bq, bz, dtrue, dfalse] at hb) <;> (try simp only [within] at hb) <;> try simp only [go_sem]) | refine And.intro (by first | exact ⟨⟩ | omega | (simp only [I64]; omega)) ?_ | (with_reducible refine vcM_some fun mg => ?_) | (simp only [go_sem, hlt', hx1, h, encN, List.length_map])))
      all_goals omega
  · have hge' : ¬ (j : Int) < l.length := by omega
    rw [orN_no fun i hi => hx i (by omega)]
    (repeat' (first | ((with_reducible first | apply sg | apply si | apply sq | apply sd) <;> intro hb <;> (try rw [hb]) <;> (try simp only [bq, bz, dtrue, dfalse] at hb) <;> (try simp only [within] at hb) <;> try simp only [go_sem]) | refine And.intro (by first | exact ⟨⟩ | omega | (simp only [I64]; omega)) ?_ | (with_reducible refine vcM_some fun mg => ?_) | (simp only [go_sem, hge', List.length_map])))
theorem c107 (a b c d : Int) (ha : 0 ≤ a ∧ a ≤ 10000) (hb : 0 ≤ b ∧ b ≤ 10000) (hc : 0 ≤ c ∧ c ≤ 10000) (hd : 0 ≤ d ∧ d ≤ 10000) : PC Tryd.prog 107 [.agg [.int .i64 a, .int .i64 b], .agg [.int .i64 c, .int .i64 d]] (.bool (decide (lexlt (a, b) (c, d)))) := by
  have h77 := c77 [a - c, b - d]
  simp only [lN, List.map_cons, List.map_nil, encN] at h77
  refine PC.body Tryd.func107 (by kernel_rfl) rfl (by simp [Tryd.f107]) rfl ?_
  simp only [Tryd.f107]
  intro hlen
  simp only [go_sem, List.length_map, and_true, true_and] at hlen
  refine CV.run ?_
  (repeat' (first | ((with_reducible first | apply sg | apply si | apply sq | apply sd) <;> intro hb <;> (try rw [hb]) <;> (try simp only [bq, bz, dtrue, dfalse] at hb) <;> (try simp only [within] at hb) <;> try simp only [go_sem]) | refine And.intro (by first | exact ⟨⟩ | omega | (simp only [I64]; omega)) ?_ | ((with_reducible first | refine vp h77 ?_ ?_); focus (first | exact ⟨rfl, .inl ⟨by first | rfl | (simp only [go_sem, AV.pureL, AV.pure]; done), by first | (simp only [go_sem, AV.pureL, AV.pure]; done) | rfl⟩⟩ | exact ⟨rfl, .inr ⟨rfl, by simp only [go_sem]⟩⟩)) | (with_reducible refine vcM_some fun mg => ?_) | (simp only [go_sem])))
  all_goals first
    | (simp only [I64]; omega)
    | (refine bd ?_
       simp only [orN, lexlt]
       split
       · split <;> omega
       · omega)
end Go.Proofs.YtjlopclpofbgbaaDoor

