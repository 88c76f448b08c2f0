/- Contracts of functions of the given program, without a condition beyond those that each theorem states; they lead to the given statement. -/
import Derived.Test.YtjlopclpofbgbaaDoorF10c
set_option linter.unusedSimpArgs false
set_option linter.unusedVariables false
set_option maxRecDepth 100000
namespace Go.Proofs.YtjlopclpofbgbaaDoor
open Go Go.Fl
open Classical
def sF10d_f110_1 : List (Nat × Nat) := [(0, 0), (0, 0), (0, 0), (0, 0), (0, 0), (0, 0), (0, 0), (0, 0), (0, 0), (0, 0), (0, 0), (0, 0), (0, 0), (0, 0), (0, 0), (0, 0), (0, 0), (0, 0), (0, 0), (0, 0), (0, 0), (0, 0), (0, 0), (0, 0), (0, 0)]
theorem c110 (ts : List Thing) (ms : List Mark) (m : Mark) {i : Decidable (¬ okMark ts m)} : PC Tryd.prog 110 [.agg (encM m), .pp [.lst false 4 (ts.map encT), .lst false 3 (ms.map encM)]] (.bool (@decide (¬ okMark ts m) i)) := by
  simp only [encM]
  refine PC.body Tryd.func110 (by kernel_rfl) rfl (by simp [Tryd.f110]) rfl ?_
  simp only [Tryd.f110]
  intro hlen
  simp only [go_sem, List.length_map, and_true, true_and] at hlen
  refine CV.run ?_
  by_cases hr : 0 ≤ m.thing ∧ m.thing < ts.length
  · obtain ⟨u, hu⟩ := get_of (l := ts) (j := m.thing.toNat) (by omega)
    have hup := upAt_of hu
    (repeat' (first | ((with_reducible first | apply sg | apply si | apply sq | apply sd) <;> intro hb <;> (try rw [hb]) <;> (try simp only [bq, bz, dtrue, dfalse] at hb) <;> (try simp only [within, Classical.not_not] at hb) <;> try simp only [go_sem]) | refine And.intro (by first | exact ⟨⟩ | omega | (simp only [I64]; omega)) ?_ | (with_reducible rw [vc_draw_eq]; first | (refine CV.draw (id := 1) sF10d_f110_1 mixed rfl (by kernel_rfl) ?_; delta sF10d_f110_1)) | ((with_reducible first | refine vp (c111 _) ?_ ?_ | refine vp (c112 _ _ _) ?_ ?_ | refine vp (c108 _ _ _) ?_ ?_); focus (first | (refine ⟨rfl, .inl ⟨?_, ?_⟩⟩ <;> first | rfl | (simp only [go_sem, hu, encT, AV.pureL, AV.pure]; done)) | (refine ⟨rfl, .inr ⟨rfl, ?_⟩⟩; simp only [go_sem, hu, encT]; done))) | ((with_reducible first | refine dp (c111 _) ?_ ?_ | refine dp (c112 _ _ _) ?_ ?_ | refine dp (c108 _ _ _) ?_ ?_); focus (refine ⟨rfl, ?_, ?_⟩ <;> first | rfl | (simp only [go_sem, hu, encT, AV.pureL, AV.pure]; done))) | ((with_reducible first | refine ds (c111 _) ?_ ?_ | refine ds (c112 _ _ _) ?_ ?_ | refine ds (c108 _ _ _) ?_ ?_); focus exact ⟨rfl, rfl⟩) | (simp only [go_sem, hu, encT])))
    all_goals first
      | (exfalso; omega)
      | exact bt (p := ¬ okMark ts m) (by unfold okMark within; omega)
      | exact bn (by unfold okMark within; omega)
  · (repeat' (first | ((with_reducible first | apply sg | apply si | apply sq | apply sd) <;> intro hb <;> (try rw [hb]) <;> (try simp only [bq, bz, dtrue, dfalse] at hb) <;> (try simp only [within, Classical.not_not] at hb) <;> try simp only [go_sem]) | refine And.intro (by first | exact ⟨⟩ | omega | (simp only [I64]; omega)) ?_ | (with_reducible rw [vc_draw_eq]; first | (refine CV.draw (id := 1) sF10d_f110_1 mixed rfl (by kernel_rfl) ?_; delta sF10d_f110_1)) | ((with_reducible first | refine vp (c111 _) ?_ ?_ | refine vp (c112 _ _ _) ?_ ?_ | refine vp (c108 _ _ _) ?_ ?_); focus (first | (refine ⟨rfl, .inl ⟨?_, ?_⟩⟩ <;> first | rfl | (simp only [go_sem, encT, AV.pureL, AV.pure]; done)) | (refine ⟨rfl, .inr ⟨rfl, ?_⟩⟩; simp only [go_sem, encT]; done))) | ((with_reducible first | refine dp (c111 _) ?_ ?_ | refine dp (c112 _ _ _) ?_ ?_ | refine dp (c108 _ _ _) ?_ ?_); focus (refine ⟨rfl, ?_, ?_⟩ <;> first | rfl | (simp only [go_sem, encT, AV.pureL, AV.pure]; done))) | ((with_reducible first | refine ds (c111 _) ?_ ?_ | refine ds (c112 _ _ _) ?_ ?_ | refine ds (c108 _ _ _) ?_ ?_); focus exact ⟨rfl, rfl⟩) | (simp only [go_sem, encT])))
    all_goals first
      | (exfalso; omega)
      | exact bt (p := ¬ okMark ts m) (by unfold okMark within; omega)
      | exact bn (by unfold okMark within; omega)
theorem c127 (ms : List Mark) (g : Nat) (caps : List AV) (hcp : AV.pureL caps = true) (hfr : frL (hop2 []) [] caps = caps) (q : Mark → Prop) (hf : ∀ m, m ∈ ms → PC Tryd.prog g (.agg (encM m) :: caps) (.bool (decide (q m)))) : PC Tryd.prog 127 [.lst false 3 (ms.map encM), .fn g caps] (.int .i64 (ix q ms)) := by
  refine PC.body Tryd.func127 (by kernel_rfl) rfl (by simp [Tryd.f127]) rfl ?_
  simp only [Tryd.f127]
  intro hlen
  simp only [go_sem, List.length_map, and_true, true_and] at hlen
  refine CV.run ?_
  (repeat' (first | ((with_reducible first | apply sg | apply si | apply sq | apply sd) <;> intro hb <;> (try rw [hb]) <;> (try simp only [bq, bz, dtrue, dfalse] at hb) <;> (try simp only [within, Classical.not_not] at hb) <;> try simp only [go_sem]) | refine And.intro (by first | exact ⟨⟩ | omega | (simp only [I64]; omega)) ?_ | (simp only [go_sem])))
  refine vc_for (fun j => ⟨[(8, .int .i64 j), (7, .int .i64 ms.length), (4, .int .i64 0), (0, .lst false 3 (ms.map encM)), (1, .fn g caps)], []⟩) ms.length (fun j => ∀ i, i < j → ∀ b, ms[i]? = some b → ¬ q b) (by exact wk_any (by simp only [go_sem, Int.natCast_add, cn, Int.cast_ofNat_Int, hq])) (fun i h => by omega) ?_
  intro j hj hx
  rcases Nat.lt_or_ge j ms.length with hlt | hge
  · obtain ⟨m, hm⟩ := get_of hlt
    have hlt' : (j : Int) < ms.length := by omega
    have hmm := List.mem_of_getElem? hm
    have hfm := hf m hmm
    simp only [encM] at hfm
    have hfz := frzL_self [] caps hcp
    (repeat' (first | ((with_reducible first | apply sg | apply si | apply sq | apply sd) <;> intro hb <;> (try rw [hb]) <;> (try simp only [bq, bz, dtrue, dfalse] at hb) <;> (try simp only [within, Classical.not_not] at hb) <;> try simp only [go_sem]) | refine And.intro (by first | exact ⟨⟩ | omega | (simp only [I64]; omega)) ?_ | ((with_reducible first | refine vp hfm ?_ ?_); focus (first | (refine ⟨rfl, .inl ⟨?_, ?_⟩⟩ <;> first | rfl | (simp only [go_sem, hlt', hm, encM, hcp, hfr, hfz, AV.pureL, AV.pure]; done)) | (refine ⟨rfl, .inr ⟨rfl, ?_⟩⟩; simp only [go_sem, hlt', hm, encM, hcp, hfr, hfz]; done))) | (simp only [go_sem, hlt', hm, encM, hcp, hfr, hfz])))
    · rw [ix_at ⟨⟨m, hm, hb⟩, hx⟩]
    · refine ⟨by exact wk_any (by simp only [go_sem, Int.natCast_add, cn, Int.cast_ofNat_Int, hq]), fun i hi b hib => ?_⟩
      rcases Nat.lt_or_ge i j with h | h
      · exact hx i h b hib
      · have : i = j := by omega
        subst this
        rw [hm] at hib; cases hib; exact hb
  · have hge' : ¬ (j : Int) < ms.length := by omega
    (repeat' (first | ((with_reducible first | apply sg | apply si | apply sq | apply sd) <;> intro hb <;> (try rw [hb]) <;> (try simp only [bq, bz, dtrue, dfalse] at hb) <;> (try simp only [within, Classical.not_not] at hb) <;> try simp only [go_sem]) | refine And.intro (by first | exact ⟨⟩ | omega | (simp only [I64]; omega)) ?_ | (simp only [go_sem, hge'])))
    rw [ix_no (fun i b hb => hx i (by have := (List.getElem?_eq_some_iff.1 hb).1; omega) b hb)]
theorem c109 (ms : List Mark) (g : Nat) (caps : List AV) (hcp : AV.pureL caps = true) (hfr : frL (hop2 []) [] caps = caps) (q : Mark → Prop) (hf : ∀ m, m ∈ ms → PC Tryd.prog g (.agg (encM m) :: caps) (.bool (decide (q m)))) : PC Tryd.prog 109 [.lst false 3 (ms.map encM), .fn g caps] (.bool (decide (∃ m, m ∈ ms ∧ q m))) := by
  have hfz := frzL_self [] caps hcp
  refine PC.body Tryd.func109 (by kernel_rfl) rfl (by simp [Tryd.f109]) rfl ?_
  simp only [Tryd.f109]
  intro hlen
  simp only [go_sem, List.length_map, and_true, true_and] at hlen
  refine CV.run ?_
  (repeat' (first | ((with_reducible first | apply sg | apply si | apply sq | apply sd) <;> intro hb <;> (try rw [hb]) <;> (try simp only [bq, bz, dtrue, dfalse] at hb) <;> (try simp only [within, Classical.not_not] at hb) <;> try simp only [go_sem]) | refine And.intro (by first | exact ⟨⟩ | omega | (simp only [I64]; omega)) ?_ | ((with_reducible first | refine vp (c127 ms g caps hcp hfr q hf) ?_ ?_); focus (first | (refine ⟨rfl, .inl ⟨?_, ?_⟩⟩ <;> first | rfl | (simp only [go_sem, hcp, hfr, hfz, AV.pureL, AV.pure]; done)) | (refine ⟨rfl, .inr ⟨rfl, ?_⟩⟩; simp only [go_sem, hcp, hfr, hfz]; done))) | (simp only [go_sem, hcp, hfr, hfz])))
  exact bd ix_ge
theorem c92 (ts : List Thing) (ms : List Mark) : PC Tryd.prog 92 [hT ts ms] (.int .i64 (check ts ms)) := by
  have hcf := c109 ms 110 [.pp [.lst false 4 (ts.map encT), .lst false 3 (ms.map encM)]] rfl rfl (fun m => ¬ okMark ts m) (fun m _ => c110 ts ms m)
  refine PC.body Tryd.func92 (by kernel_rfl) rfl (by simp [Tryd.f92]) rfl ?_
  simp only [Tryd.f92]
  intro hlen
  simp only [go_sem, List.length_map, and_true, true_and] at hlen
  refine CV.run ?_
  (repeat' (first | ((with_reducible first | apply sg | apply si | apply sq | apply sd) <;> intro hb <;> (try rw [hb]) <;> (try simp only [bq, bz, dtrue, dfalse] at hb) <;> (try simp only [within, Classical.not_not] at hb) <;> try simp only [go_sem]) | refine And.intro (by first | exact ⟨⟩ | omega | (simp only [I64]; omega)) ?_ | (simp only [go_sem])))
  · exact ck70 fun h => by have := h.1; omega
  · exact ck70 fun h => by have := h.1; have := h.2.1; omega
  rename_i hb1
  refine vc_for (fun j => ⟨[(19, .int .i64 j), (18, .int .i64 ts.length), (17, .lst false 4 (ts.map encT)), (2, .int .i64 0), (1, .lp 0 0)], [.box 25 [.lst false 4 (ts.map encT), .lst false 3 (ms.map encM)] false]⟩) ts.length (fun j => ∀ i t, i < j → ts[i]? = some t → okThing ts i t) (by exact wk_any (by simp only [go_sem, Int.natCast_add, cn, Int.cast_ofNat_Int, hq])) (fun i t h => by omega) ?_
  intro j hj hx
  rcases Nat.lt_or_ge j ts.length with hlt | hge
  · obtain ⟨t, ht⟩ := get_of hlt
    have hlt' : (j : Int) < ts.length := by omega
    have fin : okThing ts j t → ∀ i t, i < j + 1 → ts[i]? = some t → okThing ts i t := fun h i t' hi hit => by
      rcases Nat.lt_or_ge i j with h2 | h2
      · exact hx i t' h2 hit
      · have : i = j := by omega
        subst this
        rw [ht] at hit; cases hit; exact h
    by_cases hr : 0 ≤ t.of ∧ t.of < ts.length
    · obtain ⟨u, hu⟩ := get_of (l := ts) (j := t.of.toNat) (by omega)
      have hup := upAt_of hu
      have huok := fun h => hx _ _ h hu
      have hu0 : t.of < j → 0 ≤ u.at_ := fun h => by have := huok (by omega); unfold okThing within at this; omega
      (repeat' (first | ((with_reducible first | apply sg | apply si | apply sq | apply sd) <;> intro hb <;> (try rw [hb]) <;> (try simp only [bq, bz, dtrue, dfalse] at hb) <;> (try simp only [within, Classical.not_not] at hb) <;> try simp only [go_sem]) | refine And.intro (by first | exact ⟨⟩ | omega | (simp only [I64]; omega)) ?_ | ((with_reducible first | refine vp (c108 _ _ _) ?_ ?_); focus (first | (refine ⟨rfl, .inl ⟨?_, ?_⟩⟩ <;> first | rfl | (simp only [go_sem, hlt', ht, hu, encT, AV.pureL, AV.pure]; done)) | (refine ⟨rfl, .inr ⟨rfl, ?_⟩⟩; simp only [go_sem, hlt', ht, hu, encT]; done))) | (simp only [go_sem, hlt', ht, hu, encT])))
      all_goals first
        | (exfalso; omega)
        | exact ck70 fun h => by have h := h.2.2.1 j t ht; unfold okThing within at h; omega
        | exact ⟨by exact wk_any (by simp only [go_sem, Int.natCast_add, cn, Int.cast_ofNat_Int, hq]), fin (by unfold okThing within; omega)⟩
        | trace_state
    · (repeat' (first | ((with_reducible first | apply sg | apply si | apply sq | apply sd) <;> intro hb <;> (try rw [hb]) <;> (try simp only [bq, bz, dtrue, dfalse] at hb) <;> (try simp only [within, Classical.not_not] at hb) <;> try simp only [go_sem]) | refine And.intro (by first | exact ⟨⟩ | omega | (simp only [I64]; omega)) ?_ | ((with_reducible first | refine vp (c108 _ _ _) ?_ ?_); focus (first | (refine ⟨rfl, .inl ⟨?_, ?_⟩⟩ <;> first | rfl | (simp only [go_sem, hlt', ht, encT, AV.pureL, AV.pure]; done)) | (refine ⟨rfl, .inr ⟨rfl, ?_⟩⟩; simp only [go_sem, hlt', ht, encT]; done))) | (simp only [go_sem, hlt', ht, encT])))
      all_goals first
        | (exfalso; omega)
        | exact ck70 fun h => by have h := h.2.2.1 j t ht; unfold okThing within at h; omega
        | exact ⟨by exact wk_any (by simp only [go_sem, Int.natCast_add, cn, Int.cast_ofNat_Int, hq]), fin (by unfold okThing within; omega)⟩
        | trace_state
  · have hge' : ¬ (j : Int) < ts.length := by omega
    (repeat' (first | ((with_reducible first | apply sg | apply si | apply sq | apply sd) <;> intro hb <;> (try rw [hb]) <;> (try simp only [bq, bz, dtrue, dfalse] at hb) <;> (try simp only [within, Classical.not_not] at hb) <;> try simp only [go_sem]) | refine And.intro (by first | exact ⟨⟩ | omega | (simp only [I64]; omega)) ?_ | ((with_reducible first | refine vp hcf ?_ ?_); focus (first | (refine ⟨rfl, .inl ⟨?_, ?_⟩⟩ <;> first | rfl | (simp only [go_sem, hge', AV.pureL, AV.pure]; done)) | (refine ⟨rfl, .inr ⟨rfl, ?_⟩⟩; simp only [go_sem, hge']; done))) | (simp only [go_sem, hge'])))
    · exact ck70 fun h => by
        obtain ⟨m, hm, hn⟩ := hb
        exact hn (h.2.2.2 m hm)
    · exact ck0 ⟨by omega, by omega, fun i t hit => hx i t (by have := (List.getElem?_eq_some_iff.1 hit).1; omega) hit, fun m hm => Classical.byContradiction fun hn => hb ⟨m, hm, hn⟩⟩
theorem c120 (ts : List Thing) (ms : List Mark) (b : Bool) : PC Tryd.prog 120 [hT ts ms, .bool b] (.int .i64 (askP ts ms (b = true))) := by
  refine PC.body Tryd.func120 (by kernel_rfl) rfl (by simp [Tryd.f120]) rfl ?_
  simp only [Tryd.f120]
  intro hlen
  simp only [go_sem, List.length_map, and_true, true_and] at hlen
  refine CV.run ?_
  (repeat' (first | ((with_reducible first | apply sg | apply si | apply sq | apply sd) <;> intro hb <;> (try rw [hb]) <;> (try simp only [bq, bz, dtrue, dfalse] at hb) <;> (try simp only [within, Classical.not_not] at hb) <;> try simp only [go_sem]) | refine And.intro (by first | exact ⟨⟩ | omega | (simp only [I64]; omega)) ?_ | ((with_reducible first | refine vp (c92 _ _) ?_ ?_); focus (first | (refine ⟨rfl, .inl ⟨?_, ?_⟩⟩ <;> first | rfl | (simp only [go_sem, AV.pureL, AV.pure]; done)) | (refine ⟨rfl, .inr ⟨rfl, ?_⟩⟩; simp only [go_sem]; done))) | (simp only [go_sem])))
  all_goals
    by_cases hv : valid ts ms <;> simp_all [check, askP]
end Go.Proofs.YtjlopclpofbgbaaDoor

