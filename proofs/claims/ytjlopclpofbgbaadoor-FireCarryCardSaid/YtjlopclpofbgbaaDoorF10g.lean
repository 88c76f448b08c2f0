/- Contracts of functions of the given program, without a condition beyond those that each theorem states; they lead to the given statement. -/
import Derived.Test.YtjlopclpofbgbaaDoorF10f
set_option linter.unusedSimpArgs false
set_option linter.unusedVariables false
set_option maxRecDepth 100000
namespace Go.Proofs.YtjlopclpofbgbaaDoor
open Go Go.Fl
open Classical
def sF10g_f55_1 : List (Nat × Nat) := [(0, 0), (0, 0), (0, 0), (0, 0), (0, 0), (0, 0), (0, 0), (0, 0), (0, 0), (0, 0), (0, 0)]
structure Town where
  ts : List Thing
  ms : List Mark
  pl : List Int
  ca : List Int
  rm : List Int
  mi : Int
abbrev cT (t : Town) : List AV := [.lst false 4 (t.ts.map encT), .lst false 3 (t.ms.map encM), lN t.pl, lN t.ca, lN t.rm, .int .i64 t.mi]
abbrev hF (t : Town) : AV := .agg (cT t)
def atT (t : Town) (i : Int) : Int := upAt t.ts i
theorem atT_of {t : Town} {i : Int} {x : Thing} (h : t.ts[i.toNat]? = some x) : atT t i = x.at_ := upAt_of h
def there (t : Town) (i : Int) : Prop := atT t i ≤ t.mi
theorem c91 (n lo hi : Int) : PC Tryd.prog 91 [.int .i64 n, .int .i64 lo, .int .i64 hi] (.bool (decide (within n lo hi))) := by
  refine PC.body Tryd.func91 (by kernel_rfl) rfl (by simp [Tryd.f91]) rfl ?_
  simp only [Tryd.f91]
  intro hlen
  simp only [go_sem, List.length_map, and_true, true_and] at hlen
  refine CV.run ?_
  (repeat' (first | ((with_reducible first | apply sg | apply si | apply sq | apply sd) <;> intro hb <;> (try rw [hb]) <;> (try simp only [bq, bz, dtrue, dfalse] at hb) <;> (try simp only [within] at hb) <;> try simp only [go_sem]) | refine And.intro (by first | exact ⟨⟩ | omega | (simp only [I64]; omega)) ?_ | (simp only [go_sem])))
  · simp [within, hb]
  · exact bf fun h => absurd h.1 (by omega)
theorem c65 (n lo hi : Int) : PC Tryd.prog 65 [.int .i64 n, .int .i64 lo, .int .i64 hi] (.bool (decide (within n lo hi))) := by
  refine PC.body Tryd.func65 (by kernel_rfl) rfl (by simp [Tryd.f65]) rfl ?_
  simp only [Tryd.f65]
  intro hlen
  simp only [go_sem, List.length_map, and_true, true_and] at hlen
  refine CV.run ?_
  (repeat' (first | ((with_reducible first | apply sg | apply si | apply sq | apply sd) <;> intro hb <;> (try rw [hb]) <;> (try simp only [bq, bz, dtrue, dfalse] at hb) <;> (try simp only [within] at hb) <;> try simp only [go_sem]) | refine And.intro (by first | exact ⟨⟩ | omega | (simp only [I64]; omega)) ?_ | ((with_reducible first | refine vp (c97 _ _ _) ?_ ?_); focus (first | exact ⟨rfl, .inl ⟨by first | rfl | (simp only [go_sem, AV.pureL, AV.pure]; done), by first | (simp only [go_sem, AV.pureL, AV.pure]; done) | rfl⟩⟩ | exact ⟨rfl, .inr ⟨rfl, by simp only [go_sem]⟩⟩)) | (simp only [go_sem])))
theorem c20 (t : Town) (n : Int) : PC Tryd.prog 20 [hF t, .int .i64 n] (.bool (decide (within n 0 (t.rm.length - 1)))) := by
  refine PC.body Tryd.func20 (by kernel_rfl) rfl (by simp [Tryd.f20]) rfl ?_
  simp only [Tryd.f20]
  intro hlen
  simp only [go_sem, List.length_map, and_true, true_and] at hlen
  refine CV.run ?_
  (repeat' (first | ((with_reducible first | apply sg | apply si | apply sq | apply sd) <;> intro hb <;> (try rw [hb]) <;> (try simp only [bq, bz, dtrue, dfalse] at hb) <;> (try simp only [within] at hb) <;> try simp only [go_sem]) | refine And.intro (by first | exact ⟨⟩ | omega | (simp only [I64]; omega)) ?_ | ((with_reducible first | refine vp (c65 _ _ _) ?_ ?_); focus (first | exact ⟨rfl, .inl ⟨by first | rfl | (simp only [go_sem, AV.pureL, AV.pure]; done), by first | (simp only [go_sem, AV.pureL, AV.pure]; done) | rfl⟩⟩ | exact ⟨rfl, .inr ⟨rfl, by simp only [go_sem]⟩⟩)) | (simp only [go_sem])))
theorem c21 (t : Town) (n : Int) : PC Tryd.prog 21 [hF t, .int .i64 n] (.bool (decide (within n 0 (t.ts.length - 1)))) := by
  refine PC.body Tryd.func21 (by kernel_rfl) rfl (by simp [Tryd.f21]) rfl ?_
  simp only [Tryd.f21]
  intro hlen
  simp only [go_sem, List.length_map, and_true, true_and] at hlen
  refine CV.run ?_
  (repeat' (first | ((with_reducible first | apply sg | apply si | apply sq | apply sd) <;> intro hb <;> (try rw [hb]) <;> (try simp only [bq, bz, dtrue, dfalse] at hb) <;> (try simp only [within] at hb) <;> try simp only [go_sem]) | refine And.intro (by first | exact ⟨⟩ | omega | (simp only [I64]; omega)) ?_ | ((with_reducible first | refine vp (c65 _ _ _) ?_ ?_); focus (first | exact ⟨rfl, .inl ⟨by first | rfl | (simp only [go_sem, AV.pureL, AV.pure]; done), by first | (simp only [go_sem, AV.pureL, AV.pure]; done) | rfl⟩⟩ | exact ⟨rfl, .inr ⟨rfl, by simp only [go_sem]⟩⟩)) | (simp only [go_sem])))
theorem c68 (t : Town) (n : Int) : PC Tryd.prog 68 [hF t, .int .i64 n] (.bool (decide (within n 0 (t.rm.length - 1)))) := by
  refine PC.body Tryd.func68 (by kernel_rfl) rfl (by simp [Tryd.f68]) rfl ?_
  simp only [Tryd.f68]
  intro hlen
  simp only [go_sem, List.length_map, and_true, true_and] at hlen
  refine CV.run ?_
  (repeat' (first | ((with_reducible first | apply sg | apply si | apply sq | apply sd) <;> intro hb <;> (try rw [hb]) <;> (try simp only [bq, bz, dtrue, dfalse] at hb) <;> (try simp only [within] at hb) <;> try simp only [go_sem]) | refine And.intro (by first | exact ⟨⟩ | omega | (simp only [I64]; omega)) ?_ | ((with_reducible first | refine vp (c91 _ _ _) ?_ ?_); focus (first | exact ⟨rfl, .inl ⟨by first | rfl | (simp only [go_sem, AV.pureL, AV.pure]; done), by first | (simp only [go_sem, AV.pureL, AV.pure]; done) | rfl⟩⟩ | exact ⟨rfl, .inr ⟨rfl, by simp only [go_sem]⟩⟩)) | (simp only [go_sem])))
theorem c87 (t : Town) (n : Int) : PC Tryd.prog 87 [hF t, .int .i64 n] (.bool (decide (within n 0 (t.ts.length - 1)))) := by
  refine PC.body Tryd.func87 (by kernel_rfl) rfl (by simp [Tryd.f87]) rfl ?_
  simp only [Tryd.f87]
  intro hlen
  simp only [go_sem, List.length_map, and_true, true_and] at hlen
  refine CV.run ?_
  (repeat' (first | ((with_reducible first | apply sg | apply si | apply sq | apply sd) <;> intro hb <;> (try rw [hb]) <;> (try simp only [bq, bz, dtrue, dfalse] at hb) <;> (try simp only [within] at hb) <;> try simp only [go_sem]) | refine And.intro (by first | exact ⟨⟩ | omega | (simp only [I64]; omega)) ?_ | ((with_reducible first | refine vp (c91 _ _ _) ?_ ?_); focus (first | exact ⟨rfl, .inl ⟨by first | rfl | (simp only [go_sem, AV.pureL, AV.pure]; done), by first | (simp only [go_sem, AV.pureL, AV.pure]; done) | rfl⟩⟩ | exact ⟨rfl, .inr ⟨rfl, by simp only [go_sem]⟩⟩)) | (simp only [go_sem])))
theorem c55 (t : Town) (i : Int) (h : within i 0 (t.ts.length - 1)) : PC Tryd.prog 55 [hF t, .int .i64 i] (.bool (decide (there t i))) := by
  unfold within at h
  obtain ⟨x, hx⟩ := get_of (l := t.ts) (j := i.toNat) (by omega)
  have e := atT_of hx
  have hi : i < t.ts.length := by omega
  refine PC.body Tryd.func55 (by kernel_rfl) rfl (by simp [Tryd.f55]) rfl ?_
  simp only [Tryd.f55]
  intro hlen
  simp only [go_sem, List.length_map, and_true, true_and] at hlen
  refine CV.run ?_
  (repeat' (first | ((with_reducible first | apply sg | apply si | apply sq | apply sd) <;> intro hb <;> (try rw [hb]) <;> (try simp only [bq, bz, dtrue, dfalse] at hb) <;> (try simp only [within] at hb) <;> try simp only [go_sem]) | refine And.intro (by first | exact ⟨⟩ | omega | (simp only [I64]; omega)) ?_ | (with_reducible rw [vc_draw_eq]; first | (refine CV.draw (id := 1) sF10g_f55_1 mixed rfl (by kernel_rfl) ?_; delta sF10g_f55_1)) | (simp only [go_sem, hx, hi, encT])))
  all_goals first
    | omega
    | exact bd (by unfold there; rw [e])
theorem c90 (n lo hi : Int) {i : Decidable (¬ within n lo hi)} : PC Tryd.prog 90 [.int .i64 n, .pp [.int .i64 lo], .pp [.int .i64 hi]] (.bool (@decide (¬ within n lo hi) i)) := by
  refine PC.body Tryd.func90 (by kernel_rfl) rfl (by simp [Tryd.f90]) rfl ?_
  simp only [Tryd.f90]
  intro hlen
  simp only [go_sem, List.length_map, and_true, true_and] at hlen
  refine CV.run ?_
  (repeat' (first | ((with_reducible first | apply sg | apply si | apply sq | apply sd) <;> intro hb <;> (try rw [hb]) <;> (try simp only [bq, bz, dtrue, dfalse] at hb) <;> (try simp only [within] at hb) <;> try simp only [go_sem]) | refine And.intro (by first | exact ⟨⟩ | omega | (simp only [I64]; omega)) ?_ | ((with_reducible first | refine vp (c91 _ _ _) ?_ ?_); focus (first | exact ⟨rfl, .inl ⟨by first | rfl | (simp only [go_sem, AV.pureL, AV.pure]; done), by first | (simp only [go_sem, AV.pureL, AV.pure]; done) | rfl⟩⟩ | exact ⟨rfl, .inr ⟨rfl, by simp only [go_sem]⟩⟩)) | (simp only [go_sem])))
  exact bn Iff.rfl
theorem c89 (lo hi : Int) : PC Tryd.prog 89 [.int .i64 lo, .int .i64 hi] (.fn 90 [.pp [.int .i64 lo], .pp [.int .i64 hi]]) := by
  refine PC.body Tryd.func89 (by kernel_rfl) rfl (by simp [Tryd.f89]) rfl ?_
  simp only [Tryd.f89]
  intro hlen
  simp only [go_sem, List.length_map, and_true, true_and] at hlen
  refine CV.run ?_
  (repeat' (first | ((with_reducible first | apply sg | apply si | apply sq | apply sd) <;> intro hb <;> (try rw [hb]) <;> (try simp only [bq, bz, dtrue, dfalse] at hb) <;> (try simp only [within] at hb) <;> try simp only [go_sem]) | refine And.intro (by first | exact ⟨⟩ | omega | (simp only [I64]; omega)) ?_ | (simp only [go_sem])))
theorem c114 (n : Int) {i : Decidable (n < 0)} : PC Tryd.prog 114 [.int .i64 n] (.bool (@decide (n < 0) i)) := by
  refine PC.body Tryd.func114 (by kernel_rfl) rfl (by simp [Tryd.f114]) rfl ?_
  simp only [Tryd.f114]
  intro hlen
  simp only [go_sem, List.length_map, and_true, true_and] at hlen
  refine CV.run ?_
  (repeat' (first | ((with_reducible first | apply sg | apply si | apply sq | apply sd) <;> intro hb <;> (try rw [hb]) <;> (try simp only [bq, bz, dtrue, dfalse] at hb) <;> (try simp only [within] at hb) <;> try simp only [go_sem]) | refine And.intro (by first | exact ⟨⟩ | omega | (simp only [I64]; omega)) ?_ | (simp only [go_sem])))
  exact bd Iff.rfl
theorem c113 (ms : List Int) (g : Nat) (caps : List AV) (hcp : AV.pureL caps = true) (hfr : frL (hop2 []) [] caps = caps) (q : Int → Prop) (hf : ∀ m, m ∈ ms → PC Tryd.prog g (.int .i64 m :: caps) (.bool (decide (q m)))) : PC Tryd.prog 113 [lN ms, .fn g caps] (.int .i64 (ix q ms)) := by
  refine PC.body Tryd.func113 (by kernel_rfl) rfl (by simp [Tryd.f113]) rfl ?_
  simp only [Tryd.f113]
  intro hlen
  simp only [go_sem, List.length_map, and_true, true_and] at hlen
  refine CV.run ?_
  (repeat' (first | ((with_reducible first | apply sg | apply si | apply sq | apply sd) <;> intro hb <;> (try rw [hb]) <;> (try simp only [bq, bz, dtrue, dfalse] at hb) <;> (try simp only [within] at hb) <;> try simp only [go_sem]) | refine And.intro (by first | exact ⟨⟩ | omega | (simp only [I64]; omega)) ?_ | (simp only [go_sem])))
  refine vc_for (fun j => ⟨[(8, .int .i64 j), (7, .int .i64 ms.length), (4, .int .i64 0), (0, lN ms), (1, .fn g caps)], []⟩) ms.length (fun j => ∀ i, i < j → ∀ b, ms[i]? = some b → ¬ q b) (by (first | exact wk_same (by simp only [go_sem, Int.natCast_add, cn, Int.cast_ofNat_Int]) | (refine wk_drop ?_ ?_ ?_ ?_ ?_ <;> simp only [go_sem, Int.natCast_add, cn, Int.cast_ofNat_Int]))) (fun i h => by omega) ?_
  intro j hj hx
  rcases Nat.lt_or_ge j ms.length with hlt | hge
  · obtain ⟨m, hm⟩ := get_of hlt
    have hlt' : (j : Int) < ms.length := by omega
    have hmm := List.mem_of_getElem? hm
    have hfm := hf m hmm
    have hfz := frzL_self [] caps hcp
    (repeat' (first | ((with_reducible first | apply sg | apply si | apply sq | apply sd) <;> intro hb <;> (try rw [hb]) <;> (try simp only [bq, bz, dtrue, dfalse] at hb) <;> (try simp only [within] at hb) <;> try simp only [go_sem]) | refine And.intro (by first | exact ⟨⟩ | omega | (simp only [I64]; omega)) ?_ | ((with_reducible first | refine vp hfm ?_ ?_); focus (first | exact ⟨rfl, .inl ⟨by first | rfl | (simp only [go_sem, hlt', hm, encN, hcp, hfr, hfz, AV.pureL, AV.pure]; done), by first | (simp only [go_sem, hlt', hm, encN, hcp, hfr, hfz, AV.pureL, AV.pure]; done) | rfl⟩⟩ | exact ⟨rfl, .inr ⟨rfl, by simp only [go_sem, hlt', hm, encN, hcp, hfr, hfz]⟩⟩)) | (simp only [go_sem, hlt', hm, encN, hcp, hfr, hfz])))
    · rw [ix_at ⟨⟨m, hm, hb⟩, hx⟩]
    · refine ⟨by (first | exact wk_same (by simp only [go_sem, Int.natCast_add, cn, Int.cast_ofNat_Int]) | (refine wk_drop ?_ ?_ ?_ ?_ ?_ <;> simp only [go_sem, Int.natCast_add, cn, Int.cast_ofNat_Int])), fun i hi b hib => ?_⟩
      rcases Nat.lt_or_ge i j with h | h
      · exact hx i h b hib
      · have : i = j := by omega
        subst this
        rw [hm] at hib; cases hib; exact hb
  · have hge' : ¬ (j : Int) < ms.length := by omega
    (repeat' (first | ((with_reducible first | apply sg | apply si | apply sq | apply sd) <;> intro hb <;> (try rw [hb]) <;> (try simp only [bq, bz, dtrue, dfalse] at hb) <;> (try simp only [within] at hb) <;> try simp only [go_sem]) | refine And.intro (by first | exact ⟨⟩ | omega | (simp only [I64]; omega)) ?_ | (simp only [go_sem, hge'])))
    rw [ix_no (fun i b hb => hx i (by have := (List.getElem?_eq_some_iff.1 hb).1; omega) b hb)]
theorem c93 (ms : List Int) (g : Nat) (caps : List AV) (hcp : AV.pureL caps = true) (hfr : frL (hop2 []) [] caps = caps) (q : Int → Prop) (hf : ∀ m, m ∈ ms → PC Tryd.prog g (.int .i64 m :: caps) (.bool (decide (q m)))) : PC Tryd.prog 93 [lN ms, .fn g caps] (.bool (decide (∃ m, m ∈ ms ∧ q m))) := by
  have hfz := frzL_self [] caps hcp
  refine PC.body Tryd.func93 (by kernel_rfl) rfl (by simp [Tryd.f93]) rfl ?_
  simp only [Tryd.f93]
  intro hlen
  simp only [go_sem, List.length_map, and_true, true_and] at hlen
  refine CV.run ?_
  (repeat' (first | ((with_reducible first | apply sg | apply si | apply sq | apply sd) <;> intro hb <;> (try rw [hb]) <;> (try simp only [bq, bz, dtrue, dfalse] at hb) <;> (try simp only [within] at hb) <;> try simp only [go_sem]) | refine And.intro (by first | exact ⟨⟩ | omega | (simp only [I64]; omega)) ?_ | ((with_reducible first | refine vp (c113 ms g caps hcp hfr q hf) ?_ ?_); focus (first | exact ⟨rfl, .inl ⟨by first | rfl | (simp only [go_sem, hcp, hfr, hfz, AV.pureL, AV.pure]; done), by first | (simp only [go_sem, hcp, hfr, hfz, AV.pureL, AV.pure]; done) | rfl⟩⟩ | exact ⟨rfl, .inr ⟨rfl, by simp only [go_sem, hcp, hfr, hfz]⟩⟩)) | (simp only [go_sem, hcp, hfr, hfz])))
  exact bd ix_ge
noncomputable def cntP (t : Town) (pl : List Int) (b : Int) : Nat → Nat
  | 0 => 0
  | k + 1 => cntP t pl b k + if gv pl k = b ∧ there t k then 1 else 0
def roomy (t : Town) (pl : List Int) : Prop := ∀ b : Nat, b < t.rm.length → (cntP t pl b pl.length : Int) ≤ gv t.rm b
theorem cntP_le {t : Town} {pl : List Int} {b : Int} : ∀ k, cntP t pl b k ≤ k
  | 0 => Nat.le_refl _
  | k + 1 => by have := cntP_le (t := t) (pl := pl) (b := b) k; simp only [cntP]; split <;> omega
theorem cntP_yes {t : Town} {pl : List Int} {b : Int} {k : Nat} (h : gv pl k = b ∧ there t k) : cntP t pl b (k + 1) = cntP t pl b k + 1 := by simp only [cntP]; rw [if_pos h]
theorem cntP_no {t : Town} {pl : List Int} {b : Int} {k : Nat} (h : ¬ (gv pl k = b ∧ there t k)) : cntP t pl b (k + 1) = cntP t pl b k := by simp only [cntP]; rw [if_neg h]; rfl
set_option maxHeartbeats 1000000 in
theorem c86 (t : Town) (pl : List Int) (hl : pl.length ≤ t.ts.length) (hl2 : pl.length ≤ 1000) : PC Tryd.prog 86 [hF t, lN pl] (.bool (decide (roomy t pl))) := by
  refine PC.body Tryd.func86 (by kernel_rfl) rfl (by simp [Tryd.f86]) rfl ?_
  simp only [Tryd.f86]
  intro hlen
  simp only [go_sem, List.length_map, and_true, true_and] at hlen
  refine CV.run ?_
  (repeat' (first | ((with_reducible first | apply sg | apply si | apply sq | apply sd) <;> intro hb <;> (try rw [hb]) <;> (try simp only [bq, bz, dtrue, dfalse] at hb) <;> (try simp only [within] at hb) <;> try simp only [go_sem]) | refine And.intro (by first | exact ⟨⟩ | omega | (simp only [I64]; omega)) ?_ | (simp only [go_sem])))
  refine vc_for (fun b => ⟨[(5, .int .i64 b), (1, lN pl), (2, .lp 0 0), (4, .bool false)], [.box 28 (cT t) false]⟩) t.rm.length (fun b => ∀ k : Nat, k < b → (cntP t pl k pl.length : Int) ≤ gv t.rm k) (by (first | exact wk_same (by simp only [go_sem, Int.natCast_add, cn, Int.cast_ofNat_Int]) | (refine wk_drop ?_ ?_ ?_ ?_ ?_ <;> simp only [go_sem, Int.natCast_add, cn, Int.cast_ofNat_Int]))) (fun k h => by omega) ?_
  intro b hb hx
  rcases Nat.lt_or_ge b t.rm.length with hlt | hge
  · obtain ⟨r, hr⟩ := get_of hlt
    have hlt' : (b : Int) < t.rm.length := by omega
    have er := gv_nat hr
    (repeat' (first | ((with_reducible first | apply sg | apply si | apply sq | apply sd) <;> intro hb <;> (try rw [hb]) <;> (try simp only [bq, bz, dtrue, dfalse] at hb) <;> (try simp only [within] at hb) <;> try simp only [go_sem]) | refine And.intro (by first | exact ⟨⟩ | omega | (simp only [I64]; omega)) ?_ | (simp only [go_sem, hlt'])))
    refine vc_for (fun k => ⟨[(7, .int .i64 k), (6, .int .i64 (cntP t pl b k)), (5, .int .i64 b), (1, lN pl), (2, .lp 0 0), (4, .bool false)], [.box 28 (cT t) false]⟩) pl.length (fun _ => True) (by (first | exact wk_same (by simp only [go_sem, Int.natCast_add, cn, Int.cast_ofNat_Int, cntP]) | (refine wk_drop ?_ ?_ ?_ ?_ ?_ <;> simp only [go_sem, Int.natCast_add, cn, Int.cast_ofNat_Int, cntP]))) trivial ?_
    intro k hk _
    rcases Nat.lt_or_ge k pl.length with hkl | hkg
    · obtain ⟨x, hx1⟩ := get_of hkl
      have hkl' : (k : Int) < pl.length := by omega
      have ex := gv_nat hx1
      have hcl := cntP_le (t := t) (pl := pl) (b := b) k
      have h55 := c55 t k (by unfold within; omega)
      by_cases h1 : x = b
      · by_cases h2 : there t k
        · have e := cntP_yes (t := t) (pl := pl) (b := b) (k := k) ⟨by rw [ex, h1], h2⟩
          rw [decide_eq_true h2] at h55
          (repeat' (first | ((with_reducible first | apply sg | apply si | apply sq | apply sd) <;> intro hb <;> (try rw [hb]) <;> (try simp only [bq, bz, dtrue, dfalse] at hb) <;> (try simp only [within] at hb) <;> try simp only [go_sem]) | refine And.intro (by first | exact ⟨⟩ | omega | (simp only [I64]; omega)) ?_ | ((with_reducible first | refine vp h55 ?_ ?_); focus (first | exact ⟨rfl, .inl ⟨by first | rfl | (simp only [go_sem, hkl', hx1, h1, encN, List.length_map, AV.pureL, AV.pure]; done), by first | (simp only [go_sem, hkl', hx1, h1, encN, List.length_map, AV.pureL, AV.pure]; done) | rfl⟩⟩ | exact ⟨rfl, .inr ⟨rfl, by simp only [go_sem, hkl', hx1, h1, encN, List.length_map]⟩⟩)) | (simp only [go_sem, hkl', hx1, h1, encN, List.length_map])))
          exact (by (first | exact wk_same (by simp only [go_sem, Int.natCast_add, cn, Int.cast_ofNat_Int, e]) | (refine wk_drop ?_ ?_ ?_ ?_ ?_ <;> simp only [go_sem, Int.natCast_add, cn, Int.cast_ofNat_Int, e])))
        · have e := cntP_no (t := t) (pl := pl) (b := b) (k := k) fun h => h2 h.2
          rw [decide_eq_false h2] at h55
          (repeat' (first | ((with_reducible first | apply sg | apply si | apply sq | apply sd) <;> intro hb <;> (try rw [hb]) <;> (try simp only [bq, bz, dtrue, dfalse] at hb) <;> (try simp only [within] at hb) <;> try simp only [go_sem]) | refine And.intro (by first | exact ⟨⟩ | omega | (simp only [I64]; omega)) ?_ | ((with_reducible first | refine vp h55 ?_ ?_); focus (first | exact ⟨rfl, .inl ⟨by first | rfl | (simp only [go_sem, hkl', hx1, h1, encN, List.length_map, AV.pureL, AV.pure]; done), by first | (simp only [go_sem, hkl', hx1, h1, encN, List.length_map, AV.pureL, AV.pure]; done) | rfl⟩⟩ | exact ⟨rfl, .inr ⟨rfl, by simp only [go_sem, hkl', hx1, h1, encN, List.length_map]⟩⟩)) | (simp only [go_sem, hkl', hx1, h1, encN, List.length_map])))
          exact (by (first | exact wk_same (by simp only [go_sem, Int.natCast_add, cn, Int.cast_ofNat_Int, e]) | (refine wk_drop ?_ ?_ ?_ ?_ ?_ <;> simp only [go_sem, Int.natCast_add, cn, Int.cast_ofNat_Int, e])))
      · have e := cntP_no (t := t) (pl := pl) (b := b) (k := k) fun h => h1 (by rw [← h.1, ex])
        (repeat' (first | ((with_reducible first | apply sg | apply si | apply sq | apply sd) <;> intro hb <;> (try rw [hb]) <;> (try simp only [bq, bz, dtrue, dfalse] at hb) <;> (try simp only [within] at hb) <;> try simp only [go_sem]) | refine And.intro (by first | exact ⟨⟩ | omega | (simp only [I64]; omega)) ?_ | ((with_reducible first | refine vp h55 ?_ ?_); focus (first | exact ⟨rfl, .inl ⟨by first | rfl | (simp only [go_sem, hkl', hx1, h1, encN, List.length_map, AV.pureL, AV.pure]; done), by first | (simp only [go_sem, hkl', hx1, h1, encN, List.length_map, AV.pureL, AV.pure]; done) | rfl⟩⟩ | exact ⟨rfl, .inr ⟨rfl, by simp only [go_sem, hkl', hx1, h1, encN, List.length_map]⟩⟩)) | (simp only [go_sem, hkl', hx1, h1, encN, List.length_map])))
        exact (by (first | exact wk_same (by simp only [go_sem, Int.natCast_add, cn, Int.cast_ofNat_Int, e]) | (refine wk_drop ?_ ?_ ?_ ?_ ?_ <;> simp only [go_sem, Int.natCast_add, cn, Int.cast_ofNat_Int, e])))
    · have hkg' : ¬ (k : Int) < pl.length := by omega
      have : k = pl.length := by omega
      subst this
      by_cases hc : r < (cntP t pl b pl.length : Int)
      · (repeat' (first | ((with_reducible first | apply sg | apply si | apply sq | apply sd) <;> intro hb <;> (try rw [hb]) <;> (try simp only [bq, bz, dtrue, dfalse] at hb) <;> (try simp only [within] at hb) <;> try simp only [go_sem]) | refine And.intro (by first | exact ⟨⟩ | omega | (simp only [I64]; omega)) ?_ | (simp only [go_sem, hkg', hlt', hr, hc, encN, List.length_map])))
        exact bf (p := roomy t pl) fun h => by have := h b hlt; rw [er] at this; omega
      · (repeat' (first | ((with_reducible first | apply sg | apply si | apply sq | apply sd) <;> intro hb <;> (try rw [hb]) <;> (try simp only [bq, bz, dtrue, dfalse] at hb) <;> (try simp only [within] at hb) <;> try simp only [go_sem]) | refine And.intro (by first | exact ⟨⟩ | omega | (simp only [I64]; omega)) ?_ | (simp only [go_sem, hkg', hlt', hr, hc, encN, List.length_map])))
        refine ⟨by (first | exact wk_same (by simp only [go_sem, Int.natCast_add, cn, Int.cast_ofNat_Int]) | (refine wk_drop ?_ ?_ ?_ ?_ ?_ <;> simp only [go_sem, Int.natCast_add, cn, Int.cast_ofNat_Int])), fun k hk => ?_⟩
        rcases Nat.lt_or_ge k b with q | q
        · exact hx k q
        · have : k = b := by omega
          subst this
          rw [er]; omega
  · have hge' : ¬ (b : Int) < t.rm.length := by omega
    (repeat' (first | ((with_reducible first | apply sg | apply si | apply sq | apply sd) <;> intro hb <;> (try rw [hb]) <;> (try simp only [bq, bz, dtrue, dfalse] at hb) <;> (try simp only [within] at hb) <;> try simp only [go_sem]) | refine And.intro (by first | exact ⟨⟩ | omega | (simp only [I64]; omega)) ?_ | (simp only [go_sem, hge'])))
    exact bt (p := roomy t pl) fun k hk => hx k (by omega)
end Go.Proofs.YtjlopclpofbgbaaDoor

