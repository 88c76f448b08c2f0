/- Contracts of functions of the given program, without a condition beyond those that each theorem states; they lead to the given statement. -/
import Derived.Test.YtoadkchhimojlaaGreatG05e
import Derived.Test.YtoadkchhimojlaaGreatG06a
import Derived.Test.YtoadkchhimojlaaGreatFlC
set_option linter.unusedSimpArgs false
set_option linter.unusedVariables false
set_option maxRecDepth 100000
namespace Go.Proofs.YtoadkchhimojlaaGreat
open Go Go.Fl
open Classical
def sG06b_f54_1 : List (Nat × Nat) := [(0, 0), (0, 0), (0, 0), (0, 0), (0, 0), (0, 0), (0, 0), (0, 1), (0, 1), (1, 1), (1, 1), (0, 0)]
def sG06b_f41_2 : List (Nat × Nat) := [(0, 0), (0, 0), (0, 0), (0, 0), (0, 0), (0, 0), (0, 0), (0, 0), (0, 0), (0, 0)]
def sG06b_f20_2 : List (Nat × Nat) := [(0, 0), (0, 0), (0, 0), (0, 0), (0, 0)]
theorem sub_mapP {b n : Nat} {v : AV} {l : List (List Int)} : List.map (subL b n v) (List.map encP l) = List.map encP l := by
  rw [List.map_map]; exact List.map_congr_left fun a _ => by simp [encP, subL, subV]
theorem sub_mapN' {b n : Nat} {v : AV} {l : List Int} : List.map (subL b n v) (List.map encN l) = List.map encN l := sub_mapN
theorem c82 (p : List (List Int)) (h1 : p.length ≤ 1000) (h2 : ∀ l, l ∈ p → l.length ≤ 1000) : PC Tryz.prog 82 [lP p] (lP p) := by
  refine PC.body Tryz.func82 (by kernel_rfl) rfl (by simp [Tryz.f82]) rfl ?_
  simp only [Tryz.f82]
  intro hlen
  simp only [go_sem, List.length_map, and_true, true_and] at hlen
  refine CV.run ?_
  (repeat' (first | ((with_reducible first | refine vcG_split ?_ ?_ | refine vcIf_split ?_ ?_ | refine vcQ_split ?_ ?_ | refine vcDG_split ?_ ?_) <;> intro hb <;> (try rw [hb]) <;> (try simp only [bq, bz, dtrue, dfalse] at hb) <;> (try simp only [within] at hb) <;> try (simp only [go_sem])) | refine And.intro (by first | exact trivial | omega | (simp only [I64]; omega)) ?_ | (simp only [go_sem])))
  refine vc_fw (fun j => ⟨[(4, .int .i64 j), (3, .row 0 (p.take j).length), (2, .nilS), (0, lP p)], [.row 24 1 ((p.take j).map encP) false]⟩) p.length (fun _ => True) (.nilE 3 24 1 (by (simp only [go_sem])) (by omega) (.base (by (first | exact wk_same (by (simp only [go_sem, Int.natCast_add, cn, Int.cast_ofNat_Int, List.take_zero, List.map_nil])) | (refine wk_drop ?_ ?_ ?_ ?_ ?_ <;> (simp only [go_sem, Int.natCast_add, cn, Int.cast_ofNat_Int, List.take_zero, List.map_nil])))))) trivial ?_
  intro j hj _
  rcases Nat.lt_or_ge j p.length with hlt | hge
  · obtain ⟨l, hl⟩ := get_of hlt
    have hlt' : (j : Int) < p.length := by omega
    have hll := h2 l (List.mem_of_getElem? hl)
    have htl : (p.take j).length ≤ 1000 := by rw [List.length_take]; omega
    have etk : p.take (j + 1) = p.take j ++ [l] := by rw [List.take_add_one, hl]; rfl
    (repeat' (first | ((with_reducible first | refine vcG_split ?_ ?_ | refine vcIf_split ?_ ?_ | refine vcQ_split ?_ ?_ | refine vcDG_split ?_ ?_) <;> intro hb <;> (try rw [hb]) <;> (try simp only [bq, bz, dtrue, dfalse] at hb) <;> (try simp only [within] at hb) <;> try (simp only [go_sem, hlt', hl, encP, List.length_map])) | refine And.intro (by first | exact trivial | omega | (simp only [I64]; omega)) ?_ | (simp only [go_sem, hlt', hl, encP, List.length_map])))
    refine ⟨⟨by omega, by omega, .inl trivial⟩, ⟨by omega, by omega⟩, by unfold I64; omega, hlt, .take 1 rfl (by rw [pureN]; trivial) (.base ?_)⟩
    (simp only [go_sem, subEnv_go, sub_mapP, sub_mapN', List.length_map, List.map_append])
    refine wk_drop ?_ ?_ ?_ ?_ ?_ <;> (simp only [go_sem, etk, encP, List.map_append, List.length_append, subEnv_go, sub_mapP, sub_mapN', false_and, if_false, Int.natCast_add, cn, Int.cast_ofNat_Int])
  · have hge' : ¬ (j : Int) < p.length := by omega
    have : j = p.length := by omega
    subst this
    (repeat' (first | ((with_reducible first | refine vcG_split ?_ ?_ | refine vcIf_split ?_ ?_ | refine vcQ_split ?_ ?_ | refine vcDG_split ?_ ?_) <;> intro hb <;> (try rw [hb]) <;> (try simp only [bq, bz, dtrue, dfalse] at hb) <;> (try simp only [within] at hb) <;> try (simp only [go_sem, hge', List.take_length, List.length_map, frzE_self, pureP])) | refine And.intro (by first | exact trivial | omega | (simp only [I64]; omega)) ?_ | (simp only [go_sem, hge', List.take_length, List.length_map, frzE_self, pureP])))
abbrev gpC (a : Hall) : List AV := [.lst false 3 (a.hs.ms.map encM), .lst false 3 (a.hs.bs.map encB), lN a.hs.ts, .int .i64 a.hs.ch, .row 2 a.bo.length, lP a.es]
theorem not_longP {p : List (List Int)} (h : ¬ longP p) : p.length ≤ 1000 ∧ ∀ l, l ∈ p → l.length ≤ 1000 := by
  unfold longP at h
  refine ⟨by have : ¬ 40 < p.length := fun q => h (.inl q); omega, fun l hl => ?_⟩
  have : ¬ 40 < l.length := fun q => h (.inr ⟨l, hl, q⟩)
  omega
set_option maxHeartbeats 1000000 in
theorem h54 (a : Hall) (q : ¬ hugeH a) : HCH Tryz.prog 54 [hH a] [] fun r H' => r = .agg (gpC a) ∧ H' = [.box 29 (cH a) false, .box 29 (gpC a) false, .row 3 1 (a.bo.map encN) false] := by
  have q1 : ¬ hugeG a.hs := fun h => q (.inl h)
  have q2 : ¬ 40 < a.bo.length := fun h => q (.inr (.inl h))
  have q3 : ¬ longP a.es := fun h => q (.inr (.inr h))
  have h81 := c81 a.hs q1
  have h82 := c82 a.es (not_longP q3).1 (not_longP q3).2
  refine HCH.body Tryz.func54 (by kernel_rfl) rfl (by simp [Tryz.f54]) ?_
  simp only [Tryz.f54]
  refine CV.run ?_
  (repeat' (first | ((with_reducible first | refine vcG_split ?_ ?_ | refine vcIf_split ?_ ?_ | refine vcQ_split ?_ ?_ | refine vcDG_split ?_ ?_) <;> intro hb <;> (try rw [hb]) <;> (try simp only [bq, bz, dtrue, dfalse] at hb) <;> (try simp only [within] at hb) <;> try (simp only [go_sem, List.nil_append])) | refine And.intro (by first | exact trivial | omega | (simp only [I64]; omega)) ?_ | (with_reducible rw [vc_draw_eq]; first | (refine CV.draw (id := 1) sG06b_f54_1 mixed rfl (by kernel_rfl) ?_; delta sG06b_f54_1)) | ((with_reducible first | refine vp h81 ?_ ?_ | refine dc h81 ?_ ?_ | refine vp h82 ?_ ?_ | refine dc h82 ?_ ?_); focus (first | exact ⟨rfl, .inl ⟨by first | rfl | simp only [go_sem, List.nil_append, AV.pureL, AV.pure], by first | (simp only [go_sem, List.nil_append]; done) | rfl⟩⟩ | exact ⟨rfl, .inr ⟨rfl, by simp only [go_sem, List.nil_append]⟩⟩)) | ((with_reducible first | refine dp h81 ?_ ?_ | refine dp h82 ?_ ?_); focus exact ⟨rfl, by first | rfl | simp only [go_sem, List.nil_append, AV.pureL, AV.pure], by first | (simp only [go_sem, List.nil_append]; done) | rfl⟩) | ((with_reducible first | refine ds h81 ?_ ?_ | refine ds h82 ?_ ?_); focus exact ⟨rfl, rfl⟩) | (simp only [go_sem, List.nil_append])))
  refine ⟨⟨by omega, by omega, .inl trivial⟩, ?_⟩
  refine dp h82 ⟨rfl, rfl, by (simp only [go_sem, pureP])⟩ ?_
  (repeat' (first | ((with_reducible first | refine vcG_split ?_ ?_ | refine vcIf_split ?_ ?_ | refine vcQ_split ?_ ?_ | refine vcDG_split ?_ ?_) <;> intro hb <;> (try rw [hb]) <;> (try simp only [bq, bz, dtrue, dfalse] at hb) <;> (try simp only [within] at hb) <;> try (simp only [go_sem, List.nil_append])) | refine And.intro (by first | exact trivial | omega | (simp only [I64]; omega)) ?_ | (with_reducible rw [vc_draw_eq]; first | (refine CV.draw (id := 1) sG06b_f54_1 mixed rfl (by kernel_rfl) ?_; delta sG06b_f54_1)) | (simp only [go_sem, List.nil_append])))
theorem exK_small : ¬ hugeH exK := by unfold hugeH hugeG longP exK; simp
def exL : Hall := ⟨exK.hs, [0, 0], exK.es⟩
set_option maxHeartbeats 1000000 in
theorem c41 : PC Tryz.prog 41 [hH exK, .int .i64 1, .int .i64 0] (hH exL) := by
  have h := h54 exK exK_small
  simp only [gpC, exK, encM, encB, encP, lN, encN, List.map_cons, List.map_nil, List.length_cons, List.length_nil] at h
  simp only [hH, exL, exK, encM, encB, encP, lN, encN, List.map_cons, List.map_nil]
  refine PC.body Tryz.func41 (by kernel_rfl) rfl (by simp [Tryz.f41]) rfl ?_
  simp only [Tryz.f41]
  intro hlen
  simp only [go_sem, List.length_map, and_true, true_and] at hlen
  refine CV.run ?_
  (repeat' (first | ((with_reducible first | refine vcG_split ?_ ?_ | refine vcIf_split ?_ ?_ | refine vcQ_split ?_ ?_ | refine vcDG_split ?_ ?_) <;> intro hb <;> (try rw [hb]) <;> (try simp only [bq, bz, dtrue, dfalse] at hb) <;> (try simp only [within] at hb) <;> try (simp only [go_sem, encN, encM, encB, encP, List.map_cons, List.map_nil])) | refine And.intro (by first | exact trivial | omega | (simp only [I64]; omega)) ?_ | (with_reducible rw [vc_draw_eq]; first | (refine CV.draw (id := 2) sG06b_f41_2 mixed rfl (by kernel_rfl) ?_; delta sG06b_f41_2)) | (simp only [go_sem, encN, encM, encB, encP, List.map_cons, List.map_nil])))
  refine vcP_new h rfl ?_
  (repeat' (first | ((with_reducible first | refine vcG_split ?_ ?_ | refine vcIf_split ?_ ?_ | refine vcQ_split ?_ ?_ | refine vcDG_split ?_ ?_) <;> intro hb <;> (try rw [hb]) <;> (try simp only [bq, bz, dtrue, dfalse] at hb) <;> (try simp only [within] at hb) <;> try (simp only [go_sem, encN, encM, encB, encP, List.map_cons, List.map_nil, List.cons_append, List.nil_append, List.length_cons, List.length_nil])) | refine And.intro (by first | exact trivial | omega | (simp only [I64]; omega)) ?_ | (with_reducible rw [vc_draw_eq]; first | (refine CV.draw (id := 2) sG06b_f41_2 mixed rfl (by kernel_rfl) ?_; delta sG06b_f41_2)) | (simp only [go_sem, encN, encM, encB, encP, List.map_cons, List.map_nil, List.cons_append, List.nil_append, List.length_cons, List.length_nil])))
  all_goals trace_state
theorem c41' : PC Tryz.prog 41 [.agg aK, .int .i64 1, .int .i64 0] (hH exL) := PC.lo (args := [.agg aK, .int .i64 1, .int .i64 0]) c41 rfl
set_option maxHeartbeats 1000000 in
theorem c20 : PC Tryz.prog 20 [] (.tup [.agg aK, hH exL]) := by
  have h41 := c41'
  simp only [hH, exL, exK, encM, encB, encP, lN, encN, List.map_cons, List.map_nil] at h41 ⊢
  refine PC.body Tryz.func20 (by kernel_rfl) rfl (by simp [Tryz.f20]) rfl ?_
  simp only [Tryz.f20]
  intro hlen
  simp only [go_sem, List.length_map, and_true, true_and] at hlen
  refine CV.run ?_
  (repeat' (first | ((with_reducible first | refine vcG_split ?_ ?_ | refine vcIf_split ?_ ?_ | refine vcQ_split ?_ ?_ | refine vcDG_split ?_ ?_) <;> intro hb <;> (try rw [hb]) <;> (try simp only [bq, bz, dtrue, dfalse] at hb) <;> (try simp only [within] at hb) <;> try (simp only [go_sem, encN, encM, encB, encP, List.map_cons, List.map_nil])) | refine And.intro (by first | exact trivial | omega | (simp only [I64]; omega)) ?_ | (with_reducible rw [vc_draw_eq]; first | (refine CV.draw (id := 2) sG06b_f20_2 mixed rfl (by kernel_rfl) ?_; delta sG06b_f20_2)) | ((with_reducible first | refine vp h41 ?_ ?_ | refine dc h41 ?_ ?_); focus (first | exact ⟨rfl, .inl ⟨by first | rfl | simp only [go_sem, encN, encM, encB, encP, List.map_cons, List.map_nil, AV.pureL, AV.pure], by first | (simp only [go_sem, encN, encM, encB, encP, List.map_cons, List.map_nil]; done) | rfl⟩⟩ | exact ⟨rfl, .inr ⟨rfl, by simp only [go_sem, encN, encM, encB, encP, List.map_cons, List.map_nil]⟩⟩)) | ((with_reducible first | refine dp h41 ?_ ?_); focus exact ⟨rfl, by first | rfl | simp only [go_sem, encN, encM, encB, encP, List.map_cons, List.map_nil, AV.pureL, AV.pure], by first | (simp only [go_sem, encN, encM, encB, encP, List.map_cons, List.map_nil]; done) | rfl⟩) | ((with_reducible first | refine ds h41 ?_ ?_); focus exact ⟨rfl, rfl⟩) | (simp only [go_sem, encN, encM, encB, encP, List.map_cons, List.map_nil])))
  all_goals trace_state
theorem w21 : PC Tryz.prog 21 [.agg aK] (.tup [.int .i64 6, .int .i64 0]) := by
  have h := PC.lo (args := [.agg aK]) (c21 exK exK_ok (by decide)) rfl
  have e := exK_six
  cases hf : fewL (canL exK) zer12 with
  | none => rw [hf] at e; cases e
  | some s =>
    rw [hf] at e h
    have e6 : s.sum = 6 := by simpa using e
    unfold numR at h
    simp only [e6] at h
    exact h
end Go.Proofs.YtoadkchhimojlaaGreat

