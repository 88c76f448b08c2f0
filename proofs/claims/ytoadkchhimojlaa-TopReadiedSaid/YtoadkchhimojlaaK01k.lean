/- Contracts of functions of the given program, without a condition beyond those that each theorem states; they lead to the given statement. -/
import Derived.Test.YtoadkchhimojlaaK01j
set_option linter.unusedSimpArgs false
set_option linter.unusedVariables false
set_option maxRecDepth 100000
namespace Go.Proofs.Ytoadkchhimojlaa
open Go Go.Fl
open Classical
noncomputable def surG (h : House) : AV := if okG h then .tup [.bool (sureG h 0), .int .i64 0] else .tup [.bool false, .int .i64 40]
theorem c24 (h : House) : PC Try.prog 24 [hG h] (surG h) := by
  unfold surG
  by_cases hk : okG h
  · rw [if_pos hk]
    have h37 := c37 h
    rw [show checkG h = 0 from if_pos hk] at h37
    have h54 := c54 h hk 0 (by omega) (by omega)
    refine PC.body Try.func24 (by kernel_rfl) rfl (by simp [Try.f24]) rfl ?_
    simp only [Try.f24]
    intro hlen
    simp only [go_sem, List.length_map, and_true, true_and] at hlen
    refine CV.run ?_
    (repeat' (first | ((with_reducible first | refine vcG_split ?_ ?_ | refine vcIf_split ?_ ?_ | refine vcQ_split ?_ ?_ | refine vcDG_split ?_ ?_) <;> intro hb <;> (try rw [hb]) <;> (try simp only [bq, bz, dtrue, dfalse] at hb) <;> (try simp only [within] at hb) <;> try (simp only [go_sem])) | refine And.intro (by first | exact trivial | omega | (simp only [I64]; omega)) ?_ | ((with_reducible first | refine vp h37 ?_ ?_ | refine vp h54 ?_ ?_); focus (first | exact ⟨rfl, .inl ⟨by first | rfl | simp only [go_sem, AV.pureL, AV.pure], by first | (simp only [go_sem]; done) | rfl⟩⟩ | exact ⟨rfl, .inr ⟨rfl, by simp only [go_sem]⟩⟩)) | (simp only [go_sem])))
  · rw [if_neg hk]
    have h37 := c37 h
    rw [show checkG h = 40 from if_neg hk] at h37
    refine PC.body Try.func24 (by kernel_rfl) rfl (by simp [Try.f24]) rfl ?_
    simp only [Try.f24]
    intro hlen
    simp only [go_sem, List.length_map, and_true, true_and] at hlen
    refine CV.run ?_
    (repeat' (first | ((with_reducible first | refine vcG_split ?_ ?_ | refine vcIf_split ?_ ?_ | refine vcQ_split ?_ ?_ | refine vcDG_split ?_ ?_) <;> intro hb <;> (try rw [hb]) <;> (try simp only [bq, bz, dtrue, dfalse] at hb) <;> (try simp only [within] at hb) <;> try (simp only [go_sem])) | refine And.intro (by first | exact trivial | omega | (simp only [I64]; omega)) ?_ | ((with_reducible first | refine vp h37 ?_ ?_); focus (first | exact ⟨rfl, .inl ⟨by first | rfl | simp only [go_sem, AV.pureL, AV.pure], by first | (simp only [go_sem]; done) | rfl⟩⟩ | exact ⟨rfl, .inr ⟨rfl, by simp only [go_sem]⟩⟩)) | (simp only [go_sem])))
theorem c109 (n : Int) : PC Try.prog 109 [.int .i64 n] (.bool false) := by
  refine PC.body Try.func109 (by kernel_rfl) rfl (by simp [Try.f109]) rfl ?_
  simp only [Try.f109]
  intro hlen
  simp only [go_sem, List.length_map, and_true, true_and] at hlen
  refine CV.run ?_
  (repeat' (first | ((with_reducible first | refine vcG_split ?_ ?_ | refine vcIf_split ?_ ?_ | refine vcQ_split ?_ ?_ | refine vcDG_split ?_ ?_) <;> intro hb <;> (try rw [hb]) <;> (try simp only [bq, bz, dtrue, dfalse] at hb) <;> (try simp only [within] at hb) <;> try (simp only [go_sem])) | refine And.intro (by first | exact trivial | omega | (simp only [I64]; omega)) ?_ | (simp only [go_sem])))
def cmp1 (a b : Int) : Int := if a < b then -1 else if b < a then 1 else 0
theorem c80 (a b : Int) : PC Try.prog 80 [.int .i64 a, .int .i64 b] (.int .i64 (cmp1 a b)) := by
  refine PC.body Try.func80 (by kernel_rfl) rfl (by simp [Try.f80]) rfl ?_
  simp only [Try.f80]
  intro hlen
  simp only [go_sem, List.length_map, and_true, true_and] at hlen
  refine CV.run ?_
  (repeat' (first | ((with_reducible first | refine vcG_split ?_ ?_ | refine vcIf_split ?_ ?_ | refine vcQ_split ?_ ?_ | refine vcDG_split ?_ ?_) <;> intro hb <;> (try rw [hb]) <;> (try simp only [bq, bz, dtrue, dfalse] at hb) <;> (try simp only [within] at hb) <;> try (simp only [go_sem])) | refine And.intro (by first | exact trivial | omega | (simp only [I64]; omega)) ?_ | ((with_reducible first | refine vp (c109 _) ?_ ?_); focus (first | exact ⟨rfl, .inl ⟨by first | rfl | simp only [go_sem, AV.pureL, AV.pure], by first | (simp only [go_sem]; done) | rfl⟩⟩ | exact ⟨rfl, .inr ⟨rfl, by simp only [go_sem]⟩⟩)) | (simp only [go_sem])))
  all_goals (unfold cmp1; split <;> (try split) <;> first | rfl | omega)
def cmpI : List Int → List Int → Int
  | [], [] => 0
  | [], _ :: _ => -1
  | _ :: _, [] => 1
  | a :: l, b :: r => if cmp1 a b = 0 then cmpI l r else cmp1 a b
theorem c59 (a b : List Int) : PC Try.prog 59 [lN a, lN b] (.int .i64 (cmpI a b)) := by
  refine PC.body Try.func59 (by kernel_rfl) rfl (by simp [Try.f59]) rfl ?_
  simp only [Try.f59]
  intro hlen
  simp only [go_sem, List.length_map, and_true, true_and] at hlen
  refine CV.run ?_
  (repeat' (first | ((with_reducible first | refine vcG_split ?_ ?_ | refine vcIf_split ?_ ?_ | refine vcQ_split ?_ ?_ | refine vcDG_split ?_ ?_) <;> intro hb <;> (try rw [hb]) <;> (try simp only [bq, bz, dtrue, dfalse] at hb) <;> (try simp only [within] at hb) <;> try (simp only [go_sem])) | refine And.intro (by first | exact trivial | omega | (simp only [I64]; omega)) ?_ | (simp only [go_sem])))
  refine vc_for (fun j => ⟨[(11, .int .i64 j), (10, .int .i64 a.length), (9, lN a), (0, lN a), (1, lN b), (4, .int .i64 0)], []⟩) a.length (fun j => j ≤ b.length ∧ cmpI (a.drop j) (b.drop j) = cmpI a b) (by (first | exact wk_same (by (simp only [go_sem, Int.natCast_add, cn, Int.cast_ofNat_Int])) | (refine wk_drop ?_ ?_ ?_ ?_ ?_ <;> (simp only [go_sem, Int.natCast_add, cn, Int.cast_ofNat_Int])))) ⟨Nat.zero_le _, rfl⟩ ?_
  intro j hj ⟨x1, x2⟩
  rcases Nat.lt_or_ge j a.length with hlt | hge
  · obtain ⟨u, hu⟩ := get_of hlt
    have hlt' : (j : Int) < a.length := by omega
    rw [drop_cons' hu] at x2
    rcases Nat.lt_or_ge j b.length with hb | hb
    · obtain ⟨v, hv⟩ := get_of hb
      have hb1 : (j : Int) < b.length := by omega
      have hb2 : ¬ (b.length : Int) ≤ j := by omega
      rw [drop_cons' hv, cmpI] at x2
      by_cases hc : cmp1 u v = 0
      · rw [if_pos hc] at x2
        have h80 := c80 u v
        rw [hc] at h80
        (repeat' (first | ((with_reducible first | refine vcG_split ?_ ?_ | refine vcIf_split ?_ ?_ | refine vcQ_split ?_ ?_ | refine vcDG_split ?_ ?_) <;> intro hb <;> (try rw [hb]) <;> (try simp only [bq, bz, dtrue, dfalse] at hb) <;> (try simp only [within] at hb) <;> try (simp only [go_sem, hlt', hb1, hb2, hu, hv, encN])) | refine And.intro (by first | exact trivial | omega | (simp only [I64]; omega)) ?_ | ((with_reducible first | refine vp h80 ?_ ?_); focus (first | exact ⟨rfl, .inl ⟨by first | rfl | simp only [go_sem, hlt', hb1, hb2, hu, hv, encN, AV.pureL, AV.pure], by first | (simp only [go_sem, hlt', hb1, hb2, hu, hv, encN]; done) | rfl⟩⟩ | exact ⟨rfl, .inr ⟨rfl, by simp only [go_sem, hlt', hb1, hb2, hu, hv, encN]⟩⟩)) | (simp only [go_sem, hlt', hb1, hb2, hu, hv, encN])))
        exact ⟨by (first | exact wk_same (by (simp only [go_sem, Int.natCast_add, cn, Int.cast_ofNat_Int])) | (refine wk_drop ?_ ?_ ?_ ?_ ?_ <;> (simp only [go_sem, Int.natCast_add, cn, Int.cast_ofNat_Int]))), by omega, x2⟩
      · rw [if_neg hc] at x2
        rw [← x2]
        (repeat' (first | ((with_reducible first | refine vcG_split ?_ ?_ | refine vcIf_split ?_ ?_ | refine vcQ_split ?_ ?_ | refine vcDG_split ?_ ?_) <;> intro hb <;> (try rw [hb]) <;> (try simp only [bq, bz, dtrue, dfalse] at hb) <;> (try simp only [within] at hb) <;> try (simp only [go_sem, hlt', hb1, hb2, hu, hv, encN, hc])) | refine And.intro (by first | exact trivial | omega | (simp only [I64]; omega)) ?_ | ((with_reducible first | refine vp (c80 u v) ?_ ?_); focus (first | exact ⟨rfl, .inl ⟨by first | rfl | simp only [go_sem, hlt', hb1, hb2, hu, hv, encN, hc, AV.pureL, AV.pure], by first | (simp only [go_sem, hlt', hb1, hb2, hu, hv, encN, hc]; done) | rfl⟩⟩ | exact ⟨rfl, .inr ⟨rfl, by simp only [go_sem, hlt', hb1, hb2, hu, hv, encN, hc]⟩⟩)) | (simp only [go_sem, hlt', hb1, hb2, hu, hv, encN, hc])))
    · have hb2 : (b.length : Int) ≤ j := by omega
      rw [List.drop_eq_nil_of_le hb, cmpI] at x2
      rw [← x2]
      (repeat' (first | ((with_reducible first | refine vcG_split ?_ ?_ | refine vcIf_split ?_ ?_ | refine vcQ_split ?_ ?_ | refine vcDG_split ?_ ?_) <;> intro hb <;> (try rw [hb]) <;> (try simp only [bq, bz, dtrue, dfalse] at hb) <;> (try simp only [within] at hb) <;> try (simp only [go_sem, hlt', hb2, hu, encN])) | refine And.intro (by first | exact trivial | omega | (simp only [I64]; omega)) ?_ | (simp only [go_sem, hlt', hb2, hu, encN])))
      all_goals omega
  · have hge' : ¬ (j : Int) < a.length := by omega
    have : j = a.length := by omega
    subst this
    rw [List.drop_length] at x2
    (repeat' (first | ((with_reducible first | refine vcG_split ?_ ?_ | refine vcIf_split ?_ ?_ | refine vcQ_split ?_ ?_ | refine vcDG_split ?_ ?_) <;> intro hb <;> (try rw [hb]) <;> (try simp only [bq, bz, dtrue, dfalse] at hb) <;> (try simp only [within] at hb) <;> try (simp only [go_sem, hge'])) | refine And.intro (by first | exact trivial | omega | (simp only [I64]; omega)) ?_ | (simp only [go_sem, hge'])))
    · rw [drop_cons' (List.getElem?_eq_getElem (by omega))] at x2
      rw [← x2]; rfl
    · rw [List.drop_eq_nil_of_le (by omega)] at x2
      rw [← x2]; rfl
def bitsP (s : Int) : Nat → List Int
  | 0 => []
  | j + 1 => bitsP s j ++ (if s / 2 ^ j % 2 = 1 then [(j : Int)] else [])
theorem bitsP_len (s : Int) : ∀ n, (bitsP s n).length ≤ n
  | 0 => Nat.le_refl _
  | n + 1 => by have := bitsP_len s n; rw [bitsP, List.length_append]; split <;> simp <;> omega
theorem and1 {x : Int} (h : 0 ≤ x) : ((x.toNat &&& 1 : Nat) : Int) = x % 2 := by
  rw [Nat.and_one_is_mod]; omega
set_option maxHeartbeats 1000000 in
theorem c58 (s : Int) (h0 : 0 ≤ s) (h1 : s < 16) : PC Try.prog 58 [.int .u64 s] (lN (bitsP s 4)) := by
  refine PC.body Try.func58 (by kernel_rfl) rfl (by simp [Try.f58]) rfl ?_
  simp only [Try.f58]
  intro hlen
  simp only [go_sem, List.length_map, and_true, true_and] at hlen
  refine CV.run ?_
  (repeat' (first | ((with_reducible first | refine vcG_split ?_ ?_ | refine vcIf_split ?_ ?_ | refine vcQ_split ?_ ?_ | refine vcDG_split ?_ ?_) <;> intro hb <;> (try rw [hb]) <;> (try simp only [bq, bz, dtrue, dfalse] at hb) <;> (try simp only [within] at hb) <;> try (simp only [go_sem])) | refine And.intro (by first | exact trivial | omega | (simp only [I64]; omega)) ?_ | (simp only [go_sem])))
  refine vc_fw (fun j => ⟨[(5, .int .i64 j), (3, .row 0 (bitsP s j).length), (0, .int .u64 s)], [.row 3 1 ((bitsP s j).map encN) false]⟩) 4 (fun _ => True) (.nilE 3 3 1 rfl (by omega) (.base (by (first | exact wk_same (by (simp only [go_sem, Int.natCast_add, cn, Int.cast_ofNat_Int, bitsP, List.map_nil])) | (refine wk_drop ?_ ?_ ?_ ?_ ?_ <;> (simp only [go_sem, Int.natCast_add, cn, Int.cast_ofNat_Int, bitsP, List.map_nil])))))) trivial ?_
  intro j hj _
  rcases Nat.lt_or_ge j 4 with hlt | hge
  · have hlt' : (j : Int) < 4 := by omega
    have hl := bitsP_len s j
    have d0 : 0 ≤ s / 2 ^ j := Int.ediv_nonneg h0 (Int.le_of_lt (Int.pow_pos (by omega)))
    have d1 : s / 2 ^ j ≤ s := Int.ediv_le_self _ h0
    have u0 : U64 (s / 2 ^ j) = True := eq_true (by unfold U64; omega)
    have u1 : U64 1 = True := eq_true (by unfold U64; omega)
    have a1 := and1 d0
    by_cases hc : s / 2 ^ j % 2 = 1
    · have e : bitsP s (j + 1) = bitsP s j ++ [(j : Int)] := by rw [bitsP, if_pos hc]
      (repeat' (first | ((with_reducible first | refine vcG_split ?_ ?_ | refine vcIf_split ?_ ?_ | refine vcQ_split ?_ ?_ | refine vcDG_split ?_ ?_) <;> intro hb <;> (try rw [hb]) <;> (try simp only [bq, bz, dtrue, dfalse] at hb) <;> (try simp only [within] at hb) <;> try (simp only [go_sem, hlt', u0, u1, a1, hc, List.length_map])) | refine And.intro (by first | exact trivial | omega | (simp only [I64]; omega)) ?_ | (simp only [go_sem, hlt', u0, u1, a1, hc, List.length_map])))
      exact .base (by (first | exact wk_same (by (simp only [go_sem, Int.natCast_add, cn, Int.cast_ofNat_Int, e, List.map_append, List.length_append, encN])) | (refine wk_drop ?_ ?_ ?_ ?_ ?_ <;> (simp only [go_sem, Int.natCast_add, cn, Int.cast_ofNat_Int, e, List.map_append, List.length_append, encN]))))
    · have e : bitsP s (j + 1) = bitsP s j := by rw [bitsP, if_neg hc, List.append_nil]
      (repeat' (first | ((with_reducible first | refine vcG_split ?_ ?_ | refine vcIf_split ?_ ?_ | refine vcQ_split ?_ ?_ | refine vcDG_split ?_ ?_) <;> intro hb <;> (try rw [hb]) <;> (try simp only [bq, bz, dtrue, dfalse] at hb) <;> (try simp only [within] at hb) <;> try (simp only [go_sem, hlt', u0, u1, a1, hc, List.length_map])) | refine And.intro (by first | exact trivial | omega | (simp only [I64]; omega)) ?_ | (simp only [go_sem, hlt', u0, u1, a1, hc, List.length_map])))
      exact .base (by (first | exact wk_same (by (simp only [go_sem, Int.natCast_add, cn, Int.cast_ofNat_Int, e])) | (refine wk_drop ?_ ?_ ?_ ?_ ?_ <;> (simp only [go_sem, Int.natCast_add, cn, Int.cast_ofNat_Int, e]))))
  · have : j = 4 := by omega
    subst this
    (repeat' (first | ((with_reducible first | refine vcG_split ?_ ?_ | refine vcIf_split ?_ ?_ | refine vcQ_split ?_ ?_ | refine vcDG_split ?_ ?_) <;> intro hb <;> (try rw [hb]) <;> (try simp only [bq, bz, dtrue, dfalse] at hb) <;> (try simp only [within] at hb) <;> try (simp only [go_sem, List.length_map, frzE_self, pureN])) | refine And.intro (by first | exact trivial | omega | (simp only [I64]; omega)) ?_ | (simp only [go_sem, List.length_map, frzE_self, pureN])))
noncomputable def tolF (h : House) : Nat → List Int × Int
  | 0 => ([], h.ts.length + 1)
  | s + 1 => if ((((bitsP s 4).length : Int) < (tolF h s).2 ∨ ((bitsP s 4).length : Int) = (tolF h s).2 ∧ cmpI (bitsP s 4) (tolF h s).1 < 0)) ∧ sureG h s = true then (bitsP s 4, (bitsP s 4).length) else tolF h s
noncomputable def tolG (h : House) : AV := if okG h then .tup [lN (tolF h (2 ^ h.ts.length)).1, .int .i64 0] else .tup [lN [], .int .i64 40]
set_option maxHeartbeats 2000000 in
theorem c30 (h : House) : PC Try.prog 30 [hG h] (tolG h) := by
  unfold tolG
  by_cases hk : okG h
  · rw [if_pos hk]
    obtain ⟨k1, k2, k3, k4, k5, k6, k7, k8⟩ := id hk
    have h37 := c37 h
    rw [show checkG h = 0 from if_pos hk] at h37
    have hp : (2 : Int) ^ h.ts.length = ((2 ^ h.ts.length : Nat) : Int) := by simp
    have hp2 := pow_bd k3
    have hp3 : 2 ^ h.ts.length ≤ 16 := by omega
    have u0 : U64 ((2 ^ h.ts.length : Nat) : Int) = True := eq_true (by unfold U64; omega)
    refine PC.body Try.func30 (by kernel_rfl) rfl (by simp [Try.f30]) rfl ?_
    simp only [Try.f30]
    intro hlen
    simp only [go_sem, List.length_map, and_true, true_and] at hlen
    refine CV.run ?_
    (repeat' (first | ((with_reducible first | refine vcG_split ?_ ?_ | refine vcIf_split ?_ ?_ | refine vcQ_split ?_ ?_ | refine vcDG_split ?_ ?_) <;> intro hb <;> (try rw [hb]) <;> (try simp only [bq, bz, dtrue, dfalse] at hb) <;> (try simp only [within] at hb) <;> try (simp only [go_sem, hp, u0, Int.one_mul])) | refine And.intro (by first | exact trivial | omega | (simp only [I64]; omega)) ?_ | ((with_reducible first | refine vp h37 ?_ ?_); focus (first | exact ⟨rfl, .inl ⟨by first | rfl | simp only [go_sem, hp, u0, Int.one_mul, AV.pureL, AV.pure], by first | (simp only [go_sem, hp, u0, Int.one_mul]; done) | rfl⟩⟩ | exact ⟨rfl, .inr ⟨rfl, by simp only [go_sem, hp, u0, Int.one_mul]⟩⟩)) | (simp only [go_sem, hp, u0, Int.one_mul])))
    refine vc_fw (fun i => ⟨[(23, .int .u64 i), (22, .int .u64 (2 ^ h.ts.length : Nat)), (1, .lp 0 0), (3, .int .i64 0), (5, lN (tolF h i).1), (6, .int .i64 (tolF h i).2)], [.box 30 (cG h) false]⟩) (2 ^ h.ts.length) (fun _ => True) (.nilT 5 1 rfl (.base (by (first | exact wk_same (by (simp only [go_sem, Int.natCast_add, cn, Int.cast_ofNat_Int, tolF, lN, List.map_nil])) | (refine wk_drop ?_ ?_ ?_ ?_ ?_ <;> (simp only [go_sem, Int.natCast_add, cn, Int.cast_ofNat_Int, tolF, lN, List.map_nil])))))) trivial ?_
    intro i hi _
    rcases Nat.lt_or_ge i (2 ^ h.ts.length) with hlt | hge
    · have hlt' : (i : Int) < (2 ^ h.ts.length : Nat) := by omega
      have hi16 : (i : Int) < 16 := by omega
      have h58 := c58 i (by omega) hi16
      have h59 := c59 (bitsP i 4) (tolF h i).1
      have h54 := c54 h hk i (by omega) hi16
      have u1 : U64 ((i : Int) + 1) = True := eq_true (by unfold U64; omega)
      have eT : tolF h (i + 1) = if ((((bitsP i 4).length : Int) < (tolF h i).2 ∨ ((bitsP i 4).length : Int) = (tolF h i).2 ∧ cmpI (bitsP i 4) (tolF h i).1 < 0)) ∧ sureG h i = true then (bitsP i 4, ((bitsP i 4).length : Int)) else tolF h i := rfl
      generalize tolF h i = T at h59 eT ⊢
      generalize bitsP i 4 = B at h58 h59 eT ⊢
      cases hs : sureG h i <;> rw [hs] at h54 eT
      · rw [if_neg (fun q => by cases q.2)] at eT
        (repeat' (first | ((with_reducible first | refine vcG_split ?_ ?_ | refine vcIf_split ?_ ?_ | refine vcQ_split ?_ ?_ | refine vcDG_split ?_ ?_) <;> intro hb <;> (try rw [hb]) <;> (try simp only [bq, bz, dtrue, dfalse] at hb) <;> (try simp only [within] at hb) <;> try (simp only [go_sem, hlt', u1])) | refine And.intro (by first | exact trivial | omega | (simp only [I64]; omega)) ?_ | ((with_reducible first | refine vp h58 ?_ ?_ | refine vp h59 ?_ ?_ | refine vp h54 ?_ ?_); focus (first | exact ⟨rfl, .inl ⟨by first | rfl | simp only [go_sem, hlt', u1, AV.pureL, AV.pure], by first | (simp only [go_sem, hlt', u1]; done) | rfl⟩⟩ | exact ⟨rfl, .inr ⟨rfl, by simp only [go_sem, hlt', u1]⟩⟩)) | (simp only [go_sem, hlt', u1])))
        all_goals exact .base (by (first | exact wk_same (by (simp only [go_sem, Int.natCast_add, cn, Int.cast_ofNat_Int, eT])) | (refine wk_drop ?_ ?_ ?_ ?_ ?_ <;> (simp only [go_sem, Int.natCast_add, cn, Int.cast_ofNat_Int, eT]))))
      · by_cases hC : ((B.length : Int) < T.2 ∨ (B.length : Int) = T.2 ∧ cmpI B T.1 < 0)
        · rw [if_pos ⟨hC, rfl⟩] at eT
          (repeat' (first | ((with_reducible first | refine vcG_split ?_ ?_ | refine vcIf_split ?_ ?_ | refine vcQ_split ?_ ?_ | refine vcDG_split ?_ ?_) <;> intro hb <;> (try rw [hb]) <;> (try simp only [bq, bz, dtrue, dfalse] at hb) <;> (try simp only [within] at hb) <;> try (simp only [go_sem, hlt', u1])) | refine And.intro (by first | exact trivial | omega | (simp only [I64]; omega)) ?_ | ((with_reducible first | refine vp h58 ?_ ?_ | refine vp h59 ?_ ?_ | refine vp h54 ?_ ?_); focus (first | exact ⟨rfl, .inl ⟨by first | rfl | simp only [go_sem, hlt', u1, AV.pureL, AV.pure], by first | (simp only [go_sem, hlt', u1]; done) | rfl⟩⟩ | exact ⟨rfl, .inr ⟨rfl, by simp only [go_sem, hlt', u1]⟩⟩)) | (simp only [go_sem, hlt', u1])))
          all_goals first
            | (exfalso; omega)
            | exact .base (by (first | exact wk_same (by (simp only [go_sem, Int.natCast_add, cn, Int.cast_ofNat_Int, eT])) | (refine wk_drop ?_ ?_ ?_ ?_ ?_ <;> (simp only [go_sem, Int.natCast_add, cn, Int.cast_ofNat_Int, eT]))))
        · rw [if_neg (fun q => hC q.1)] at eT
          (repeat' (first | ((with_reducible first | refine vcG_split ?_ ?_ | refine vcIf_split ?_ ?_ | refine vcQ_split ?_ ?_ | refine vcDG_split ?_ ?_) <;> intro hb <;> (try rw [hb]) <;> (try simp only [bq, bz, dtrue, dfalse] at hb) <;> (try simp only [within] at hb) <;> try (simp only [go_sem, hlt', u1])) | refine And.intro (by first | exact trivial | omega | (simp only [I64]; omega)) ?_ | ((with_reducible first | refine vp h58 ?_ ?_ | refine vp h59 ?_ ?_ | refine vp h54 ?_ ?_); focus (first | exact ⟨rfl, .inl ⟨by first | rfl | simp only [go_sem, hlt', u1, AV.pureL, AV.pure], by first | (simp only [go_sem, hlt', u1]; done) | rfl⟩⟩ | exact ⟨rfl, .inr ⟨rfl, by simp only [go_sem, hlt', u1]⟩⟩)) | (simp only [go_sem, hlt', u1])))
          all_goals first
            | (exfalso; omega)
            | exact .base (by (first | exact wk_same (by (simp only [go_sem, Int.natCast_add, cn, Int.cast_ofNat_Int, eT])) | (refine wk_drop ?_ ?_ ?_ ?_ ?_ <;> (simp only [go_sem, Int.natCast_add, cn, Int.cast_ofNat_Int, eT]))))
    · have hge' : ¬ (i : Int) < (2 ^ h.ts.length : Nat) := by omega
      have : i = 2 ^ h.ts.length := by omega
      subst this
      (repeat' (first | ((with_reducible first | refine vcG_split ?_ ?_ | refine vcIf_split ?_ ?_ | refine vcQ_split ?_ ?_ | refine vcDG_split ?_ ?_) <;> intro hb <;> (try rw [hb]) <;> (try simp only [bq, bz, dtrue, dfalse] at hb) <;> (try simp only [within] at hb) <;> try (simp only [go_sem, hge'])) | refine And.intro (by first | exact trivial | omega | (simp only [I64]; omega)) ?_ | (simp only [go_sem, hge'])))
  · rw [if_neg hk]
    have h37 := c37 h
    rw [show checkG h = 40 from if_neg hk] at h37
    refine PC.body Try.func30 (by kernel_rfl) rfl (by simp [Try.f30]) rfl ?_
    simp only [Try.f30]
    intro hlen
    simp only [go_sem, List.length_map, and_true, true_and] at hlen
    refine CV.run ?_
    (repeat' (first | ((with_reducible first | refine vcG_split ?_ ?_ | refine vcIf_split ?_ ?_ | refine vcQ_split ?_ ?_ | refine vcDG_split ?_ ?_) <;> intro hb <;> (try rw [hb]) <;> (try simp only [bq, bz, dtrue, dfalse] at hb) <;> (try simp only [within] at hb) <;> try (simp only [go_sem])) | refine And.intro (by first | exact trivial | omega | (simp only [I64]; omega)) ?_ | ((with_reducible first | refine vp h37 ?_ ?_); focus (first | exact ⟨rfl, .inl ⟨by first | rfl | simp only [go_sem, AV.pureL, AV.pure], by first | (simp only [go_sem]; done) | rfl⟩⟩ | exact ⟨rfl, .inr ⟨rfl, by simp only [go_sem]⟩⟩)) | (simp only [go_sem])))
end Go.Proofs.Ytoadkchhimojlaa

