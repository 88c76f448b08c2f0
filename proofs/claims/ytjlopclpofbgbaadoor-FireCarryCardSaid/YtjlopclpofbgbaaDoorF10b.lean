/- Contracts of functions of the given program, without a condition beyond those that each theorem states; they lead to the given statement. -/
import Derived.Test.YtjlopclpofbgbaaDoorF10a
set_option linter.unusedSimpArgs false
set_option linter.unusedVariables false
set_option maxRecDepth 100000
namespace Go.Proofs.YtjlopclpofbgbaaDoor
open Go Go.Fl
open Classical
def sF10b_f117_1 : List (Nat × Nat) := [(0, 0), (0, 0), (0, 0), (0, 0), (0, 0), (0, 0), (0, 0), (0, 0), (0, 0), (0, 0), (0, 0), (0, 0), (0, 0), (0, 0), (0, 0), (0, 0), (0, 0), (0, 0), (0, 0), (0, 0), (0, 0), (0, 0)]
def sF10b_f95_7 : List (Nat × Nat) := [(0, 0), (0, 0), (0, 0), (0, 0), (0, 0), (0, 0), (0, 0), (0, 0), (0, 0), (0, 0), (0, 0), (0, 0), (0, 0), (0, 0), (0, 0), (0, 0), (0, 0), (0, 0), (0, 0), (0, 0), (0, 0), (0, 0), (0, 0), (0, 0), (0, 0), (0, 0), (0, 0), (0, 0), (0, 0), (0, 0), (0, 0), (0, 0), (0, 0), (0, 0), (0, 0), (0, 0), (0, 0), (0, 0), (0, 0), (0, 0), (0, 0)]
def sF10b_f95_12 : List (Nat × Nat) := [(0, 0), (0, 0), (0, 0), (0, 0), (0, 0), (0, 0), (0, 0), (0, 0)]
def upAt (ts : List Thing) (n : Int) : Int := match ts[n.toNat]? with | some u => u.at_ | none => 0
theorem upAt_of {ts : List Thing} {n : Int} {u : Thing} (h : ts[n.toNat]? = some u) : upAt ts n = u.at_ := by simp [upAt, h]
def okThing (ts : List Thing) (i : Nat) (t : Thing) : Prop := within t.of (-1) (i - 1) ∧ within t.at_ 0 99 ∧ (t.of ≠ -1 → upAt ts t.of ≤ t.at_) ∧ within t.cost 0 99 ∧ within t.prints 0 1
def okMark (ts : List Thing) (m : Mark) : Prop := within m.change 0 2 ∧ within m.thing 0 (ts.length - 1) ∧ within m.at_ (upAt ts m.thing) 99
def valid (ts : List Thing) (ms : List Mark) : Prop := ts.length ≤ 8 ∧ ms.length ≤ 6 ∧ (∀ i t, ts[i]? = some t → okThing ts i t) ∧ ∀ m, m ∈ ms → okMark ts m
noncomputable def check (ts : List Thing) (ms : List Mark) : Int := if valid ts ms then 0 else 70
theorem ck0 {ts : List Thing} {ms : List Mark} (h : valid ts ms) : AV.int .i64 0 = .int .i64 (check ts ms) := by simp [check, h]
theorem ck70 {ts : List Thing} {ms : List Mark} (h : ¬ valid ts ms) : AV.int .i64 70 = .int .i64 (check ts ms) := by simp [check, h]
theorem c117 (ts : List Thing) (ms : List Mark) (m : Mark) : PC Tryd.prog 117 [hT ts ms, .agg (encM m)] (.bool (decide (okMark ts m))) := by
  simp only [encM]
  refine PC.body Tryd.func117 (by kernel_rfl) rfl (by simp [Tryd.f117]) rfl ?_
  simp only [Tryd.f117]
  intro hlen
  simp only [go_sem, List.length_map, and_true, true_and] at hlen
  refine CV.run ?_
  by_cases hr : 0 ≤ m.thing ∧ m.thing < ts.length
  · obtain ⟨u, hu⟩ := get_of (l := ts) (j := m.thing.toNat) (by omega)
    have hup := upAt_of hu
    (repeat' (first | ((with_reducible first | apply sg | apply si | apply sq | apply sd) <;> intro hb <;> (try rw [hb]) <;> (try simp only [bq, bz, dtrue, dfalse] at hb) <;> (try simp only [within, Classical.not_not] at hb) <;> try simp only [go_sem]) | refine And.intro (by first | exact ⟨⟩ | omega | (simp only [I64]; omega)) ?_ | (with_reducible rw [vc_draw_eq]; first | (refine CV.draw (id := 1) sF10b_f117_1 mixed rfl (by kernel_rfl) ?_; delta sF10b_f117_1)) | ((with_reducible first | refine vp (c128 _) ?_ ?_ | refine vp (c129 _ _ _) ?_ ?_ | refine vp (c115 _ _ _) ?_ ?_); focus (refine ⟨rfl, ?_⟩; first | exact .inl ⟨rfl, rfl⟩ | simp only [go_sem, hu, encT, AV.pureL, AV.pure, hq] | (refine .inr ⟨rfl, ?_⟩; simp only [go_sem, hu, encT, AV.pureL, AV.pure, hq]))) | ((with_reducible first | refine dp (c128 _) ?_ ?_ | refine dp (c129 _ _ _) ?_ ?_ | refine dp (c115 _ _ _) ?_ ?_); focus (refine ⟨rfl, ?_⟩; first | exact ⟨rfl, rfl⟩ | simp only [go_sem, hu, encT, AV.pureL, AV.pure, hq])) | ((with_reducible first | refine ds (c128 _) ?_ ?_ | refine ds (c129 _ _ _) ?_ ?_ | refine ds (c115 _ _ _) ?_ ?_); focus exact ⟨rfl, rfl⟩) | (simp only [go_sem, hu, encT])))
    · exact bd (by unfold okMark within; omega)
    · exact bf (p := okMark ts m) fun h => by unfold okMark within at h; omega
    · exact bf (p := okMark ts m) fun h => by unfold okMark within at h; omega
  · (repeat' (first | ((with_reducible first | apply sg | apply si | apply sq | apply sd) <;> intro hb <;> (try rw [hb]) <;> (try simp only [bq, bz, dtrue, dfalse] at hb) <;> (try simp only [within, Classical.not_not] at hb) <;> try simp only [go_sem]) | refine And.intro (by first | exact ⟨⟩ | omega | (simp only [I64]; omega)) ?_ | (with_reducible rw [vc_draw_eq]; first | (refine CV.draw (id := 1) sF10b_f117_1 mixed rfl (by kernel_rfl) ?_; delta sF10b_f117_1)) | ((with_reducible first | refine vp (c128 _) ?_ ?_ | refine vp (c129 _ _ _) ?_ ?_ | refine vp (c115 _ _ _) ?_ ?_); focus (refine ⟨rfl, ?_⟩; first | exact .inl ⟨rfl, rfl⟩ | simp only [go_sem, encT, AV.pureL, AV.pure, hq] | (refine .inr ⟨rfl, ?_⟩; simp only [go_sem, encT, AV.pureL, AV.pure, hq]))) | ((with_reducible first | refine dp (c128 _) ?_ ?_ | refine dp (c129 _ _ _) ?_ ?_ | refine dp (c115 _ _ _) ?_ ?_); focus (refine ⟨rfl, ?_⟩; first | exact ⟨rfl, rfl⟩ | simp only [go_sem, encT, AV.pureL, AV.pure, hq])) | ((with_reducible first | refine ds (c128 _) ?_ ?_ | refine ds (c129 _ _ _) ?_ ?_ | refine ds (c115 _ _ _) ?_ ?_); focus exact ⟨rfl, rfl⟩) | (simp only [go_sem, encT])))
    all_goals first | (exfalso; omega) | exact bf (p := okMark ts m) fun h => by unfold okMark within at h; omega
theorem c66 (ts : List Thing) (ms : List Mark) : PC Tryd.prog 66 [hT ts ms] (.bool (decide (40 < ts.length ∨ 40 < ms.length))) := by
  refine PC.body Tryd.func66 (by kernel_rfl) rfl (by simp [Tryd.f66]) rfl ?_
  simp only [Tryd.f66]
  intro hlen
  simp only [go_sem, List.length_map, and_true, true_and] at hlen
  refine CV.run ?_
  (repeat' (first | ((with_reducible first | apply sg | apply si | apply sq | apply sd) <;> intro hb <;> (try rw [hb]) <;> (try simp only [bq, bz, dtrue, dfalse] at hb) <;> (try simp only [within, Classical.not_not] at hb) <;> try simp only [go_sem]) | refine And.intro (by first | exact ⟨⟩ | omega | (simp only [I64]; omega)) ?_ | (simp only [go_sem])))
  · exact bt (by omega)
  · exact bd (by omega)
theorem c95 (ts : List Thing) (ms : List Mark) : PC Tryd.prog 95 [hT ts ms] (.int .i64 (check ts ms)) := by
  refine PC.body Tryd.func95 (by kernel_rfl) rfl (by simp [Tryd.f95]) rfl ?_
  simp only [Tryd.f95]
  intro hlen
  simp only [go_sem, List.length_map, and_true, true_and] at hlen
  refine CV.run ?_
  (repeat' (first | ((with_reducible first | apply sg | apply si | apply sq | apply sd) <;> intro hb <;> (try rw [hb]) <;> (try simp only [bq, bz, dtrue, dfalse] at hb) <;> (try simp only [within, Classical.not_not] at hb) <;> try simp only [go_sem]) | refine And.intro (by first | exact ⟨⟩ | omega | (simp only [I64]; omega)) ?_ | (with_reducible rw [vc_draw_eq]; first | (refine CV.draw (id := 7) sF10b_f95_7 mixed rfl (by kernel_rfl) ?_; delta sF10b_f95_7) | (refine CV.draw (id := 12) sF10b_f95_12 mixed rfl (by kernel_rfl) ?_; delta sF10b_f95_12)) | (simp only [go_sem])))
  · exact ck70 fun h => by have := h.1; omega
  · exact ck70 fun h => by have := h.1; have := h.2.1; omega
  rename_i hb1
  refine vc_for (fun j => ⟨[(3, .int .i64 j), (2, .int .i64 0), (1, .lp 0 0)], [.box 25 [.lst false 4 (ts.map encT), .lst false 3 (ms.map encM)] false]⟩) ts.length (fun j => ∀ i t, i < j → ts[i]? = some t → okThing ts i t) (by exact wk_any (by simp only [go_sem, Int.natCast_add, cn, Int.cast_ofNat_Int, hq])) (fun i t h => by omega) ?_
  intro j hj hx
  rcases Nat.lt_or_ge j ts.length with hlt | hge
  · obtain ⟨t, ht⟩ := get_of hlt
    have hlt' : (j : Int) < ts.length := by omega
    have fin : okThing ts j t → ∀ i t, i < j + 1 → ts[i]? = some t → okThing ts i t := fun h i t' hi hit => by
      rcases Nat.lt_or_ge i j with h2 | h2
      · exact hx i t' h2 hit
      · have : i = j := by omega
        subst this
        rw [ht] at hit; cases hit; exact h
    by_cases hr : 0 ≤ t.of ∧ t.of < ts.length
    · obtain ⟨u, hu⟩ := get_of (l := ts) (j := t.of.toNat) (by omega)
      have hup := upAt_of hu
      (repeat' (first | ((with_reducible first | apply sg | apply si | apply sq | apply sd) <;> intro hb <;> (try rw [hb]) <;> (try simp only [bq, bz, dtrue, dfalse] at hb) <;> (try simp only [within, Classical.not_not] at hb) <;> try simp only [go_sem]) | refine And.intro (by first | exact ⟨⟩ | omega | (simp only [I64]; omega)) ?_ | (with_reducible rw [vc_draw_eq]; first | (refine CV.draw (id := 7) sF10b_f95_7 mixed rfl (by kernel_rfl) ?_; delta sF10b_f95_7) | (refine CV.draw (id := 12) sF10b_f95_12 mixed rfl (by kernel_rfl) ?_; delta sF10b_f95_12)) | ((with_reducible first | refine vp (c115 _ _ _) ?_ ?_ | refine vp (c116 _) ?_ ?_); focus (refine ⟨rfl, ?_⟩; first | exact .inl ⟨rfl, rfl⟩ | simp only [go_sem, hlt', ht, hu, encT, AV.pureL, AV.pure, hq] | (refine .inr ⟨rfl, ?_⟩; simp only [go_sem, hlt', ht, hu, encT, AV.pureL, AV.pure, hq]))) | ((with_reducible first | refine dp (c115 _ _ _) ?_ ?_ | refine dp (c116 _) ?_ ?_); focus (refine ⟨rfl, ?_⟩; first | exact ⟨rfl, rfl⟩ | simp only [go_sem, hlt', ht, hu, encT, AV.pureL, AV.pure, hq])) | ((with_reducible first | refine ds (c115 _ _ _) ?_ ?_ | refine ds (c116 _) ?_ ?_); focus exact ⟨rfl, rfl⟩) | (simp only [go_sem, hlt', ht, hu, encT])))
      all_goals first
        | (exfalso; omega)
        | exact ck70 fun h => by have h := h.2.2.1 j t ht; unfold okThing within at h; omega
        | exact ⟨by exact wk_any (by simp only [go_sem, Int.natCast_add, cn, Int.cast_ofNat_Int, hq]), fin (by unfold okThing within; omega)⟩
    · (repeat' (first | ((with_reducible first | apply sg | apply si | apply sq | apply sd) <;> intro hb <;> (try rw [hb]) <;> (try simp only [bq, bz, dtrue, dfalse] at hb) <;> (try simp only [within, Classical.not_not] at hb) <;> try simp only [go_sem]) | refine And.intro (by first | exact ⟨⟩ | omega | (simp only [I64]; omega)) ?_ | (with_reducible rw [vc_draw_eq]; first | (refine CV.draw (id := 7) sF10b_f95_7 mixed rfl (by kernel_rfl) ?_; delta sF10b_f95_7) | (refine CV.draw (id := 12) sF10b_f95_12 mixed rfl (by kernel_rfl) ?_; delta sF10b_f95_12)) | ((with_reducible first | refine vp (c115 _ _ _) ?_ ?_ | refine vp (c116 _) ?_ ?_); focus (refine ⟨rfl, ?_⟩; first | exact .inl ⟨rfl, rfl⟩ | simp only [go_sem, hlt', ht, encT, AV.pureL, AV.pure, hq] | (refine .inr ⟨rfl, ?_⟩; simp only [go_sem, hlt', ht, encT, AV.pureL, AV.pure, hq]))) | ((with_reducible first | refine dp (c115 _ _ _) ?_ ?_ | refine dp (c116 _) ?_ ?_); focus (refine ⟨rfl, ?_⟩; first | exact ⟨rfl, rfl⟩ | simp only [go_sem, hlt', ht, encT, AV.pureL, AV.pure, hq])) | ((with_reducible first | refine ds (c115 _ _ _) ?_ ?_ | refine ds (c116 _) ?_ ?_); focus exact ⟨rfl, rfl⟩) | (simp only [go_sem, hlt', ht, encT])))
      all_goals first
        | (exfalso; omega)
        | exact ck70 fun h => by have h := h.2.2.1 j t ht; unfold okThing within at h; omega
        | exact ⟨by exact wk_any (by simp only [go_sem, Int.natCast_add, cn, Int.cast_ofNat_Int, hq]), fin (by unfold okThing within; omega)⟩
  · have hge' : ¬ (j : Int) < ts.length := by omega
    (repeat' (first | ((with_reducible first | apply sg | apply si | apply sq | apply sd) <;> intro hb <;> (try rw [hb]) <;> (try simp only [bq, bz, dtrue, dfalse] at hb) <;> (try simp only [within, Classical.not_not] at hb) <;> try simp only [go_sem]) | refine And.intro (by first | exact ⟨⟩ | omega | (simp only [I64]; omega)) ?_ | (with_reducible rw [vc_draw_eq]; first | (refine CV.draw (id := 7) sF10b_f95_7 mixed rfl (by kernel_rfl) ?_; delta sF10b_f95_7) | (refine CV.draw (id := 12) sF10b_f95_12 mixed rfl (by kernel_rfl) ?_; delta sF10b_f95_12)) | (simp only [go_sem, hge'])))
    refine vc_for (fun j => ⟨[(5, .int .i64 j), (2, .int .i64 0), (1, .lp 0 0)], [.box 25 [.lst false 4 (ts.map encT), .lst false 3 (ms.map encM)] false]⟩) ms.length (fun j => ∀ i m, i < j → ms[i]? = some m → okMark ts m) (by exact wk_any (by simp only [go_sem, Int.natCast_add, cn, Int.cast_ofNat_Int, hq])) (fun i t h => by omega) ?_
    intro k hk hy
    rcases Nat.lt_or_ge k ms.length with hlt2 | hge2
    · obtain ⟨m, hm⟩ := get_of hlt2
      have hlt2' : (k : Int) < ms.length := by omega
      have hmm := List.mem_of_getElem? hm
      (repeat' (first | ((with_reducible first | apply sg | apply si | apply sq | apply sd) <;> intro hb <;> (try rw [hb]) <;> (try simp only [bq, bz, dtrue, dfalse] at hb) <;> (try simp only [within, Classical.not_not] at hb) <;> try simp only [go_sem]) | refine And.intro (by first | exact ⟨⟩ | omega | (simp only [I64]; omega)) ?_ | (with_reducible rw [vc_draw_eq]; first | (refine CV.draw (id := 7) sF10b_f95_7 mixed rfl (by kernel_rfl) ?_; delta sF10b_f95_7) | (refine CV.draw (id := 12) sF10b_f95_12 mixed rfl (by kernel_rfl) ?_; delta sF10b_f95_12)) | ((with_reducible first | refine vp (c117 _ _ _) ?_ ?_); focus (refine ⟨rfl, ?_⟩; first | exact .inl ⟨rfl, rfl⟩ | simp only [go_sem, hlt2', hm, encM, AV.pureL, AV.pure, hq] | (refine .inr ⟨rfl, ?_⟩; simp only [go_sem, hlt2', hm, encM, AV.pureL, AV.pure, hq]))) | ((with_reducible first | refine dp (c117 _ _ _) ?_ ?_); focus (refine ⟨rfl, ?_⟩; first | exact ⟨rfl, rfl⟩ | simp only [go_sem, hlt2', hm, encM, AV.pureL, AV.pure, hq])) | ((with_reducible first | refine ds (c117 _ _ _) ?_ ?_); focus exact ⟨rfl, rfl⟩) | (simp only [go_sem, hlt2', hm, encM])))
      · exact ck70 fun h => hb (h.2.2.2 m hmm)
      · refine ⟨by exact wk_any (by simp only [go_sem, Int.natCast_add, cn, Int.cast_ofNat_Int, hq]), fun i m' hi him => ?_⟩
        rcases Nat.lt_or_ge i k with h2 | h2
        · exact hy i m' h2 him
        · have : i = k := by omega
          subst this
          rw [hm] at him; cases him; exact hb
    · have hge2' : ¬ (k : Int) < ms.length := by omega
      (repeat' (first | ((with_reducible first | apply sg | apply si | apply sq | apply sd) <;> intro hb <;> (try rw [hb]) <;> (try simp only [bq, bz, dtrue, dfalse] at hb) <;> (try simp only [within, Classical.not_not] at hb) <;> try simp only [go_sem]) | refine And.intro (by first | exact ⟨⟩ | omega | (simp only [I64]; omega)) ?_ | (with_reducible rw [vc_draw_eq]; first | (refine CV.draw (id := 7) sF10b_f95_7 mixed rfl (by kernel_rfl) ?_; delta sF10b_f95_7) | (refine CV.draw (id := 12) sF10b_f95_12 mixed rfl (by kernel_rfl) ?_; delta sF10b_f95_12)) | (simp only [go_sem, hge2'])))
      refine ck0 ⟨by omega, by omega, fun i t hit => hx i t (by have := (List.getElem?_eq_some_iff.1 hit).1; omega) hit, fun m hm => ?_⟩
      obtain ⟨i, hi⟩ := List.mem_iff_getElem?.1 hm
      exact hy i m (by have := (List.getElem?_eq_some_iff.1 hi).1; omega) hi
def hasOf (ts : List Thing) (ms : List Mark) (c : Int) : Nat → Int → Int → Prop
  | 0, _, _ => False
  | n + 1, i, at_ => ∃ t, ts[i.toNat]? = some t ∧ t.at_ ≤ at_ ∧ ((∃ m, m ∈ ms ∧ m.change = c ∧ m.thing = i ∧ m.at_ ≤ at_) ∨ (t.of ≠ -1 ∧ hasOf ts ms c n t.of t.at_))
end Go.Proofs.YtjlopclpofbgbaaDoor

