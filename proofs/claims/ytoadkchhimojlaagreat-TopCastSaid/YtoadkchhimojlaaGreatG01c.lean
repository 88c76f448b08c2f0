/- Contracts of functions of the given program, without a condition beyond those that each theorem states; they lead to the given statement. -/
import Derived.Test.YtoadkchhimojlaaGreatG01b
set_option linter.unusedSimpArgs false
set_option linter.unusedVariables false
set_option maxRecDepth 100000
namespace Go.Proofs.YtoadkchhimojlaaGreat
open Go Go.Fl
open Classical
def sG01c_f95_7 : List (Nat × Nat) := [(0, 0), (0, 0), (0, 0), (0, 0), (0, 0), (0, 0), (0, 0), (0, 0), (0, 0), (0, 0), (0, 0), (0, 0)]
def tb (t : Int) : Int := if t = -1 then 1048576 else t
def rdF (T : List Int) : List Bun → Nat → List Int → List Int
  | [], _, R => R
  | x :: l, i, R => rdF T l (i + 1) (R.set x.train.toNat (max (gv R x.train) (tb (gv T i))))
def r0 : List Int := [0, 0, 0, 0]
def rdy (h : House) (T : List Int) : List Int := rdF T h.bs 0 r0
theorem rdF_len (T : List Int) : ∀ (l : List Bun) (i : Nat) (R : List Int), (rdF T l i R).length = R.length
  | [], _, _ => rfl
  | x :: l, i, R => by rw [rdF, rdF_len T l]; simp
theorem gv_set {l : List Int} {j : Nat} {x : Int} {i : Nat} (hj : j < l.length) : gv (l.set j x) i = if i = j then x else gv l i := by
  simp only [gv, Int.toNat_natCast]
  rw [List.getElem?_set]
  by_cases e : j = i
  · subst e; rw [if_pos rfl, if_pos hj, if_pos rfl]; rfl
  · rw [if_neg e, if_neg fun h => e h.symm]
set_option maxHeartbeats 4000000 in
theorem c95 (h : House) (hk : okG h) (T : List Int) (hT : T.length = 5) : PC Tryz.prog 95 [hG h, .agg (T.map I)] (.agg ((rdy h T).map I)) := by
  obtain ⟨k1, k2, k3, k4, k5, k6, k7, k8⟩ := id hk
  have htl : (T.map I).length = 5 := by simp [hT]
  refine PC.body Tryz.func95 (by kernel_rfl) rfl (by simp [Tryz.f95]) (pureL_mapI _) ?_
  simp only [Tryz.f95]
  intro hlen
  simp only [go_sem, List.length_map, and_true, true_and] at hlen
  refine CV.run ?_
  (repeat' (first | ((with_reducible first | refine vcG_split ?_ ?_ | refine vcIf_split ?_ ?_ | refine vcQ_split ?_ ?_ | refine vcDG_split ?_ ?_) <;> intro hb <;> (try rw [hb]) <;> (try simp only [bq, bz, dtrue, dfalse] at hb) <;> (try simp only [within] at hb) <;> try (simp only [go_sem, allOne_mapI, htl])) | refine And.intro (by first | exact trivial | omega | (simp only [I64]; omega)) ?_ | (with_reducible rw [vc_draw_eq]; first | (refine CV.draw (id := 7) sG01c_f95_7 mixed rfl (by kernel_rfl) ?_; delta sG01c_f95_7)) | (simp only [go_sem, allOne_mapI, htl])))
  refine vc_fx (fun j (x : List Int × List Int) => ⟨[(11, .int .i64 j), (10, .int .i64 h.bs.length), (9, .lst false 3 (h.bs.map encB)), (3, .lp 1 0), (4, .lp 2 0), (5, .lp 3 0)], [.box 26 (cG h) false, .box 142 (x.1.map I) false, .box 140 ([0, 0, 0, 0].map I) false, .box 140 (x.2.map I) false]⟩) h.bs.length (fun j x => x.1.length = 5 ∧ x.2.length = 4 ∧ (∀ i : Nat, j ≤ i → gv x.1 i = gv T i) ∧ rdF T (h.bs.drop j) j x.2 = rdy h T) (T, r0) (.base (by (first | exact wk_same (by (simp only [go_sem, Int.natCast_add, cn, Int.cast_ofNat_Int, r0, I, List.map_cons, List.map_nil])) | (refine wk_drop ?_ ?_ ?_ ?_ ?_ <;> (simp only [go_sem, Int.natCast_add, cn, Int.cast_ofNat_Int, r0, I, List.map_cons, List.map_nil]))))) ⟨hT, rfl, fun _ _ => rfl, rfl⟩ ?_
  intro j x hj ⟨x1, x2, x3, x4⟩
  obtain ⟨U, R⟩ := x
  simp only at x1 x2 x3 x4
  rcases Nat.lt_or_ge j h.bs.length with hlt | hge
  · obtain ⟨y, hy⟩ := get_of hlt
    have hlt' : (j : Int) < h.bs.length := by omega
    have hyk := (k8 y (List.mem_of_getElem? hy)).1
    unfold within at hyk
    rw [drop_cons' hy, rdF, ← x3 j (Nat.le_refl _)] at x4
    obtain ⟨tr, htr⟩ : ∃ tr : Nat, y.train = tr := ⟨y.train.toNat, by omega⟩
    have h5 : (j : Int) < 5 := by omega
    have h4 : (tr : Int) < 4 := by omega
    have hjU : j < U.length := by omega
    have htR : tr < R.length := by omega
    obtain ⟨u, hu⟩ := get_of hjU
    obtain ⟨r, hr⟩ := get_of htR
    have eu := gv_nat hu
    have er := gv_nat hr
    rw [htr, eu, er, Int.toNat_natCast] at x4
    have hj5 : j < 5 := by omega
    have ht4 : tr < 4 := by omega
    have hset : (U.set j 1048576)[j]? = some 1048576 := by rw [List.getElem?_set_self hjU]
    by_cases hu1 : u = -1
    · (repeat' (first | ((with_reducible first | refine vcG_split ?_ ?_ | refine vcIf_split ?_ ?_ | refine vcQ_split ?_ ?_ | refine vcDG_split ?_ ?_) <;> intro hb <;> (try rw [hb]) <;> (try simp only [bq, bz, dtrue, dfalse] at hb) <;> (try simp only [within] at hb) <;> try (simp only [go_sem, hlt', hy, encB, htr, h5, h4, hj5, ht4, hu, hr, hu1, x1, x2, put0', hset, getI, drop_head, Option.map_some, I, List.length_map, List.length_set, Nat.mul_one])) | refine And.intro (by first | exact trivial | omega | (simp only [I64]; omega)) ?_ | (with_reducible rw [vc_draw_eq]; first | (refine CV.draw (id := 7) sG01c_f95_7 mixed rfl (by kernel_rfl) ?_; delta sG01c_f95_7)) | (simp only [go_sem, hlt', hy, encB, htr, h5, h4, hj5, ht4, hu, hr, hu1, x1, x2, put0', hset, getI, drop_head, Option.map_some, I, List.length_map, List.length_set, Nat.mul_one])))
      rw [show tb u = 1048576 from if_pos hu1] at x4
      refine ⟨(U.set j 1048576, R.set tr (max r 1048576)), hlt, .base (by (first | exact wk_same (by (simp only [go_sem, Int.natCast_add, cn, Int.cast_ofNat_Int, put0', hj5, ht4, x1, x2])) | (refine wk_drop ?_ ?_ ?_ ?_ ?_ <;> (simp only [go_sem, Int.natCast_add, cn, Int.cast_ofNat_Int, put0', hj5, ht4, x1, x2])))), by simpa using x1, by simpa using x2, fun i hi => ?_, x4⟩
      rw [gv_set hjU, if_neg (by omega)]; exact x3 i (by omega)
    · (repeat' (first | ((with_reducible first | refine vcG_split ?_ ?_ | refine vcIf_split ?_ ?_ | refine vcQ_split ?_ ?_ | refine vcDG_split ?_ ?_) <;> intro hb <;> (try rw [hb]) <;> (try simp only [bq, bz, dtrue, dfalse] at hb) <;> (try simp only [within] at hb) <;> try (simp only [go_sem, hlt', hy, encB, htr, h5, h4, hj5, ht4, hu, hr, hu1, x1, x2, put0', getI, drop_head, Option.map_some, I, List.length_map, List.length_set, Nat.mul_one])) | refine And.intro (by first | exact trivial | omega | (simp only [I64]; omega)) ?_ | (with_reducible rw [vc_draw_eq]; first | (refine CV.draw (id := 7) sG01c_f95_7 mixed rfl (by kernel_rfl) ?_; delta sG01c_f95_7)) | (simp only [go_sem, hlt', hy, encB, htr, h5, h4, hj5, ht4, hu, hr, hu1, x1, x2, put0', getI, drop_head, Option.map_some, I, List.length_map, List.length_set, Nat.mul_one])))
      rw [show tb u = u from if_neg hu1] at x4
      exact ⟨(U, R.set tr (max r u)), hlt, .base (by (first | exact wk_same (by (simp only [go_sem, Int.natCast_add, cn, Int.cast_ofNat_Int, put0', hj5, ht4, x1, x2])) | (refine wk_drop ?_ ?_ ?_ ?_ ?_ <;> (simp only [go_sem, Int.natCast_add, cn, Int.cast_ofNat_Int, put0', hj5, ht4, x1, x2])))), x1, by simpa using x2, fun i hi => x3 i (by omega), x4⟩
  · have hge' : ¬ (j : Int) < h.bs.length := by omega
    have : j = h.bs.length := by omega
    subst this
    rw [List.drop_length, rdF] at x4
    subst x4
    have htk : List.take 4 (List.map I (rdy h T)) = List.map I (rdy h T) := List.take_of_length_le (by simp [x2])
    (repeat' (first | ((with_reducible first | refine vcG_split ?_ ?_ | refine vcIf_split ?_ ?_ | refine vcQ_split ?_ ?_ | refine vcDG_split ?_ ?_) <;> intro hb <;> (try rw [hb]) <;> (try simp only [bq, bz, dtrue, dfalse] at hb) <;> (try simp only [within] at hb) <;> try (simp only [go_sem, hge', x2, htk, allOne_mapI, frzL_mapI, List.length_map, List.drop_succ_cons, List.drop_zero, List.append_nil])) | refine And.intro (by first | exact trivial | omega | (simp only [I64]; omega)) ?_ | (with_reducible rw [vc_draw_eq]; first | (refine CV.draw (id := 7) sG01c_f95_7 mixed rfl (by kernel_rfl) ?_; delta sG01c_f95_7)) | (simp only [go_sem, hge', x2, htk, allOne_mapI, frzL_mapI, List.length_map, List.drop_succ_cons, List.drop_zero, List.append_nil])))
def ltM (h : House) (R : List Int) : Nat → Int
  | 0 => 0
  | i + 1 => ltM h R i + (if gv h.ts i < gv R i then 2 ^ i else 0)
theorem ltM_bd (h : House) (R : List Int) : ∀ i, 0 ≤ ltM h R i ∧ ltM h R i < 2 ^ i
  | 0 => by simp [ltM]
  | i + 1 => by
    have := ltM_bd h R i
    rw [ltM, Int.pow_succ]
    split <;> omega
theorem or_add {a : Int} {i : Nat} (h0 : 0 ≤ a) (h1 : a < 2 ^ i) : ((a.toNat ||| (2 ^ i : Nat) : Nat) : Int) = a + 2 ^ i := by
  have h2 : a.toNat < 2 ^ i := by
    have e : ((2 ^ i : Nat) : Int) = 2 ^ i := by simp
    omega
  have h3 := Nat.two_pow_add_eq_or_of_lt h2 1
  rw [Nat.mul_one, Nat.or_comm] at h3
  have e2 : ((2 ^ i : Nat) : Int) = (2 : Int) ^ i := by simp
  rw [← h3, Int.natCast_add, e2]
  clear h3 h2
  omega
abbrev ltG (h : House) (R : List Int) : Int := ltM h R h.ts.length
theorem pow_bd {i : Nat} (h : i ≤ 4) : (2 : Int) ^ i ≤ 16 ∧ 1 ≤ (2 : Int) ^ i := by
  have hc : i = 0 ∨ i = 1 ∨ i = 2 ∨ i = 3 ∨ i = 4 := by omega
  rcases hc with rfl | rfl | rfl | rfl | rfl <;> decide
set_option maxHeartbeats 1000000 in
theorem c94 (h : House) (hk : okG h) (R : List Int) (hR : R.length = 4) : PC Tryz.prog 94 [hG h, .agg (R.map I)] (.int .u64 (ltG h R)) := by
  obtain ⟨k1, k2, k3, k4, k5, k6, k7, k8⟩ := id hk
  have htl : (R.map I).length = 4 := by simp [hR]
  refine PC.body Tryz.func94 (by kernel_rfl) rfl (by simp [Tryz.f94]) rfl ?_
  simp only [Tryz.f94]
  intro hlen
  simp only [go_sem, List.length_map, and_true, true_and] at hlen
  refine CV.run ?_
  (repeat' (first | ((with_reducible first | refine vcG_split ?_ ?_ | refine vcIf_split ?_ ?_ | refine vcQ_split ?_ ?_ | refine vcDG_split ?_ ?_) <;> intro hb <;> (try rw [hb]) <;> (try simp only [bq, bz, dtrue, dfalse] at hb) <;> (try simp only [within] at hb) <;> try (simp only [go_sem, allOne_mapI, htl])) | refine And.intro (by first | exact trivial | omega | (simp only [I64]; omega)) ?_ | (simp only [go_sem, allOne_mapI, htl])))
  refine vc_for (fun j => ⟨[(11, .int .i64 j), (10, .int .i64 h.ts.length), (9, lN h.ts), (3, .lp 1 0), (5, .int .u64 (ltM h R j)), (4, .int .u64 0)], [.box 26 (cG h) false, .box 140 (R.map I) false]⟩) h.ts.length (fun _ => True) (by (first | exact wk_same (by (simp only [go_sem, Int.natCast_add, cn, Int.cast_ofNat_Int, ltM])) | (refine wk_drop ?_ ?_ ?_ ?_ ?_ <;> (simp only [go_sem, Int.natCast_add, cn, Int.cast_ofNat_Int, ltM])))) trivial ?_
  intro j hj _
  rcases Nat.lt_or_ge j h.ts.length with hlt | hge
  · obtain ⟨t, ht⟩ := get_of hlt
    have hlt' : (j : Int) < h.ts.length := by omega
    have hj4' : (j : Int) < 4 := by omega
    have hj4 : j < 4 := by omega
    obtain ⟨r, hr⟩ := get_of (l := R) (j := j) (by omega)
    have et := gv_nat ht
    have er := gv_nat hr
    have hb1 := ltM_bd h R j
    have hb2 := pow_bd (i := j) (by omega)
    have hor := or_add hb1.1 hb1.2
    have e3 : ((2 : Int) ^ j).toNat = 2 ^ j := by rw [show (2 : Int) ^ j = ((2 ^ j : Nat) : Int) by simp]; exact Int.toNat_natCast _
    have eor : (((ltM h R j).toNat ||| (1 * (2 : Int) ^ j).toNat : Nat) : Int) = ltM h R j + 2 ^ j := by rw [Int.one_mul, e3]; exact hor
    have l1 : t < r → ltM h R (j + 1) = ltM h R j + 2 ^ j := fun q => by rw [ltM, et, er, if_pos q]
    have l2 : ¬ t < r → ltM h R (j + 1) = ltM h R j := fun q => by rw [ltM, et, er, if_neg q, Int.add_zero]
    have hb3 : ltM h R j < 16 := by omega
    (repeat' (first | ((with_reducible first | refine vcG_split ?_ ?_ | refine vcIf_split ?_ ?_ | refine vcQ_split ?_ ?_ | refine vcDG_split ?_ ?_) <;> intro hb <;> (try rw [hb]) <;> (try simp only [bq, bz, dtrue, dfalse] at hb) <;> (try simp only [within] at hb) <;> try (simp only [go_sem, hlt', ht, hj4', hj4, hr, encN, getI, drop_head, Option.map_some, I, List.length_map, List.length_set, Nat.mul_one])) | refine And.intro (by first | exact trivial | omega | (simp only [I64]; omega)) ?_ | (simp only [go_sem, hlt', ht, hj4', hj4, hr, encN, getI, drop_head, Option.map_some, I, List.length_map, List.length_set, Nat.mul_one])))
    · exact ⟨⟨by omega, by omega, by unfold U64; omega⟩, ⟨by unfold U64; omega, by unfold U64; omega⟩, by unfold I64; omega, hlt, by (first | exact wk_same (by (simp only [go_sem, Int.natCast_add, cn, Int.cast_ofNat_Int, eor, l1 hb])) | (refine wk_drop ?_ ?_ ?_ ?_ ?_ <;> (simp only [go_sem, Int.natCast_add, cn, Int.cast_ofNat_Int, eor, l1 hb])))⟩
    · (first | exact wk_same (by (simp only [go_sem, Int.natCast_add, cn, Int.cast_ofNat_Int, l2 hb])) | (refine wk_drop ?_ ?_ ?_ ?_ ?_ <;> (simp only [go_sem, Int.natCast_add, cn, Int.cast_ofNat_Int, l2 hb])))
  · have hge' : ¬ (j : Int) < h.ts.length := by omega
    have : j = h.ts.length := by omega
    subst this
    (repeat' (first | ((with_reducible first | refine vcG_split ?_ ?_ | refine vcIf_split ?_ ?_ | refine vcQ_split ?_ ?_ | refine vcDG_split ?_ ?_) <;> intro hb <;> (try rw [hb]) <;> (try simp only [bq, bz, dtrue, dfalse] at hb) <;> (try simp only [within] at hb) <;> try (simp only [go_sem, hge'])) | refine And.intro (by first | exact trivial | omega | (simp only [I64]; omega)) ?_ | (simp only [go_sem, hge'])))
end Go.Proofs.YtoadkchhimojlaaGreat

