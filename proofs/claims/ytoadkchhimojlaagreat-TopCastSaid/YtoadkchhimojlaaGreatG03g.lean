/- Contracts of functions of the given program, without a condition beyond those that each theorem states; they lead to the given statement. -/
import Derived.Test.YtoadkchhimojlaaGreatG03f
set_option linter.unusedSimpArgs false
set_option linter.unusedVariables false
set_option maxRecDepth 100000
namespace Go.Proofs.YtoadkchhimojlaaGreat
open Go Go.Fl
open Classical
theorem c102 (n : Int) : PC Tryz.prog 102 [.int .i64 n] (.bool false) := by
  refine PC.body Tryz.func102 (by kernel_rfl) rfl (by simp [Tryz.f102]) rfl ?_
  simp only [Tryz.f102]
  intro hlen
  simp only [go_sem, List.length_map, and_true, true_and] at hlen
  refine CV.run ?_
  (repeat' (first | ((with_reducible first | refine vcG_split ?_ ?_ | refine vcIf_split ?_ ?_ | refine vcQ_split ?_ ?_ | refine vcDG_split ?_ ?_) <;> intro hb <;> (try rw [hb]) <;> (try simp only [bq, bz, dtrue, dfalse] at hb) <;> (try simp only [within] at hb) <;> try (simp only [go_sem])) | refine And.intro (by first | exact trivial | omega | (simp only [I64]; omega)) ?_ | (simp only [go_sem])))
def cmp1 (a b : Int) : Int := if a < b then -1 else if b < a then 1 else 0
theorem c83 (a b : Int) : PC Tryz.prog 83 [.int .i64 a, .int .i64 b] (.int .i64 (cmp1 a b)) := by
  refine PC.body Tryz.func83 (by kernel_rfl) rfl (by simp [Tryz.f83]) rfl ?_
  simp only [Tryz.f83]
  intro hlen
  simp only [go_sem, List.length_map, and_true, true_and] at hlen
  refine CV.run ?_
  (repeat' (first | ((with_reducible first | refine vcG_split ?_ ?_ | refine vcIf_split ?_ ?_ | refine vcQ_split ?_ ?_ | refine vcDG_split ?_ ?_) <;> intro hb <;> (try rw [hb]) <;> (try simp only [bq, bz, dtrue, dfalse] at hb) <;> (try simp only [within] at hb) <;> try (simp only [go_sem])) | refine And.intro (by first | exact trivial | omega | (simp only [I64]; omega)) ?_ | ((with_reducible first | refine vp (c102 _) ?_ ?_); focus (first | exact ⟨rfl, .inl ⟨by first | rfl | simp only [go_sem, AV.pureL, AV.pure], by first | (simp only [go_sem]; done) | rfl⟩⟩ | exact ⟨rfl, .inr ⟨rfl, by simp only [go_sem]⟩⟩)) | (simp only [go_sem])))
  all_goals (unfold cmp1; split <;> (try split) <;> first | rfl | omega)
def cmpI : List Int → List Int → Int
  | [], [] => 0
  | [], _ :: _ => -1
  | _ :: _, [] => 1
  | a :: l, b :: r => if cmp1 a b = 0 then cmpI l r else cmp1 a b
theorem c65 (a b : List Int) : PC Tryz.prog 65 [lN a, lN b] (.int .i64 (cmpI a b)) := by
  refine PC.body Tryz.func65 (by kernel_rfl) rfl (by simp [Tryz.f65]) rfl ?_
  simp only [Tryz.f65]
  intro hlen
  simp only [go_sem, List.length_map, and_true, true_and] at hlen
  refine CV.run ?_
  (repeat' (first | ((with_reducible first | refine vcG_split ?_ ?_ | refine vcIf_split ?_ ?_ | refine vcQ_split ?_ ?_ | refine vcDG_split ?_ ?_) <;> intro hb <;> (try rw [hb]) <;> (try simp only [bq, bz, dtrue, dfalse] at hb) <;> (try simp only [within] at hb) <;> try (simp only [go_sem])) | refine And.intro (by first | exact trivial | omega | (simp only [I64]; omega)) ?_ | (simp only [go_sem])))
  refine vc_for (fun j => ⟨[(11, .int .i64 j), (10, .int .i64 a.length), (9, lN a), (0, lN a), (1, lN b), (4, .int .i64 0)], []⟩) a.length (fun j => j ≤ b.length ∧ cmpI (a.drop j) (b.drop j) = cmpI a b) (by (first | exact wk_same (by (simp only [go_sem, Int.natCast_add, cn, Int.cast_ofNat_Int])) | (refine wk_drop ?_ ?_ ?_ ?_ ?_ <;> (simp only [go_sem, Int.natCast_add, cn, Int.cast_ofNat_Int])))) ⟨Nat.zero_le _, rfl⟩ ?_
  intro j hj ⟨x1, x2⟩
  rcases Nat.lt_or_ge j a.length with hlt | hge
  · obtain ⟨u, hu⟩ := get_of hlt
    have hlt' : (j : Int) < a.length := by omega
    rw [drop_cons' hu] at x2
    rcases Nat.lt_or_ge j b.length with hb | hb
    · obtain ⟨v, hv⟩ := get_of hb
      have hb1 : (j : Int) < b.length := by omega
      have hb2 : ¬ (b.length : Int) ≤ j := by omega
      rw [drop_cons' hv, cmpI] at x2
      by_cases hc : cmp1 u v = 0
      · rw [if_pos hc] at x2
        have h80 := c83 u v
        rw [hc] at h80
        (repeat' (first | ((with_reducible first | refine vcG_split ?_ ?_ | refine vcIf_split ?_ ?_ | refine vcQ_split ?_ ?_ | refine vcDG_split ?_ ?_) <;> intro hb <;> (try rw [hb]) <;> (try simp only [bq, bz, dtrue, dfalse] at hb) <;> (try simp only [within] at hb) <;> try (simp only [go_sem, hlt', hb1, hb2, hu, hv, encN])) | refine And.intro (by first | exact trivial | omega | (simp only [I64]; omega)) ?_ | ((with_reducible first | refine vp h80 ?_ ?_); focus (first | exact ⟨rfl, .inl ⟨by first | rfl | simp only [go_sem, hlt', hb1, hb2, hu, hv, encN, AV.pureL, AV.pure], by first | (simp only [go_sem, hlt', hb1, hb2, hu, hv, encN]; done) | rfl⟩⟩ | exact ⟨rfl, .inr ⟨rfl, by simp only [go_sem, hlt', hb1, hb2, hu, hv, encN]⟩⟩)) | (simp only [go_sem, hlt', hb1, hb2, hu, hv, encN])))
        exact ⟨by (first | exact wk_same (by (simp only [go_sem, Int.natCast_add, cn, Int.cast_ofNat_Int])) | (refine wk_drop ?_ ?_ ?_ ?_ ?_ <;> (simp only [go_sem, Int.natCast_add, cn, Int.cast_ofNat_Int]))), by omega, x2⟩
      · rw [if_neg hc] at x2
        rw [← x2]
        (repeat' (first | ((with_reducible first | refine vcG_split ?_ ?_ | refine vcIf_split ?_ ?_ | refine vcQ_split ?_ ?_ | refine vcDG_split ?_ ?_) <;> intro hb <;> (try rw [hb]) <;> (try simp only [bq, bz, dtrue, dfalse] at hb) <;> (try simp only [within] at hb) <;> try (simp only [go_sem, hlt', hb1, hb2, hu, hv, encN, hc])) | refine And.intro (by first | exact trivial | omega | (simp only [I64]; omega)) ?_ | ((with_reducible first | refine vp (c83 u v) ?_ ?_); focus (first | exact ⟨rfl, .inl ⟨by first | rfl | simp only [go_sem, hlt', hb1, hb2, hu, hv, encN, hc, AV.pureL, AV.pure], by first | (simp only [go_sem, hlt', hb1, hb2, hu, hv, encN, hc]; done) | rfl⟩⟩ | exact ⟨rfl, .inr ⟨rfl, by simp only [go_sem, hlt', hb1, hb2, hu, hv, encN, hc]⟩⟩)) | (simp only [go_sem, hlt', hb1, hb2, hu, hv, encN, hc])))
    · have hb2 : (b.length : Int) ≤ j := by omega
      rw [List.drop_eq_nil_of_le hb, cmpI] at x2
      rw [← x2]
      (repeat' (first | ((with_reducible first | refine vcG_split ?_ ?_ | refine vcIf_split ?_ ?_ | refine vcQ_split ?_ ?_ | refine vcDG_split ?_ ?_) <;> intro hb <;> (try rw [hb]) <;> (try simp only [bq, bz, dtrue, dfalse] at hb) <;> (try simp only [within] at hb) <;> try (simp only [go_sem, hlt', hb2, hu, encN])) | refine And.intro (by first | exact trivial | omega | (simp only [I64]; omega)) ?_ | (simp only [go_sem, hlt', hb2, hu, encN])))
      all_goals omega
  · have hge' : ¬ (j : Int) < a.length := by omega
    have : j = a.length := by omega
    subst this
    rw [List.drop_length] at x2
    (repeat' (first | ((with_reducible first | refine vcG_split ?_ ?_ | refine vcIf_split ?_ ?_ | refine vcQ_split ?_ ?_ | refine vcDG_split ?_ ?_) <;> intro hb <;> (try rw [hb]) <;> (try simp only [bq, bz, dtrue, dfalse] at hb) <;> (try simp only [within] at hb) <;> try (simp only [go_sem, hge'])) | refine And.intro (by first | exact trivial | omega | (simp only [I64]; omega)) ?_ | (simp only [go_sem, hge'])))
    · rw [drop_cons' (List.getElem?_eq_getElem (by omega))] at x2
      rw [← x2]; rfl
    · rw [List.drop_eq_nil_of_le (by omega)] at x2
      rw [← x2]; rfl
def bitsP (s : Int) : Nat → List Int
  | 0 => []
  | j + 1 => bitsP s j ++ (if s / 2 ^ j % 2 = 1 then [(j : Int)] else [])
theorem bitsP_len (s : Int) : ∀ n, (bitsP s n).length ≤ n
  | 0 => Nat.le_refl _
  | n + 1 => by have := bitsP_len s n; rw [bitsP, List.length_append]; split <;> simp <;> omega
theorem and1 {x : Int} (h : 0 ≤ x) : ((x.toNat &&& 1 : Nat) : Int) = x % 2 := by
  rw [Nat.and_one_is_mod]; omega
end Go.Proofs.YtoadkchhimojlaaGreat

