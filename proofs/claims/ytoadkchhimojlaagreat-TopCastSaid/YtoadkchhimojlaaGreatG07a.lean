/- Contracts of functions of the given program, without a condition beyond those that each theorem states; they lead to the given statement. -/
import Derived.Test.YtoadkchhimojlaaGreatG06b
import Derived.Test.YtoadkchhimojlaaGreatG06c
set_option linter.unusedSimpArgs false
set_option linter.unusedVariables false
set_option maxRecDepth 100000
namespace Go.Proofs.YtoadkchhimojlaaGreat
open Go Go.Fl
open Classical
def sG07a_f3_14 : List (Nat × Nat) := [(0, 0), (0, 0), (0, 0), (0, 0), (0, 0), (0, 0), (0, 0), (0, 0), (0, 0), (0, 0), (0, 0), (0, 0), (0, 0), (0, 0), (0, 0), (0, 0), (0, 0)]
def sG07a_f3_28 : List (Nat × Nat) := [(0, 0), (0, 0), (0, 0), (0, 0), (0, 0), (0, 0), (0, 0), (0, 0), (0, 0), (0, 0), (0, 0), (0, 0), (0, 0), (0, 0), (0, 0), (0, 0), (0, 0), (0, 0)]
theorem c7 : PC Tryz.prog 7 [] (.bool true) := by
  have h19 := W2.c19
  have h13 := W2.w23
  have h22 := W2.c22 [3, 2, 0, 3] [3, 2, 0, 3]
  have h20 := c20
  have h21 := w21
  simp only [W2.exR, W2.exT, W2.hS, W2.encD, W2.encW, lN, encN, List.map_cons, List.map_nil] at h19 h13 h22
  refine PC.body Tryz.func7 (by kernel_rfl) rfl (by simp [Tryz.f7]) rfl ?_
  simp only [Tryz.f7]
  intro hlen
  simp only [go_sem, List.length_map, and_true, true_and] at hlen
  refine CV.run ?_
  (repeat' (first | ((with_reducible first | refine vcG_split ?_ ?_ | refine vcIf_split ?_ ?_ | refine vcQ_split ?_ ?_ | refine vcDG_split ?_ ?_) <;> intro hb <;> (try rw [hb]) <;> (try simp only [bq, bz, dtrue, dfalse] at hb) <;> (try simp only [within] at hb) <;> try (simp only [go_sem, encN, List.map_cons, List.map_nil])) | refine And.intro (by first | exact trivial | omega | (simp only [I64]; omega)) ?_ | ((with_reducible first | refine vp h19 ?_ ?_ | refine vp h20 ?_ ?_ | refine vp h13 ?_ ?_ | refine vp h21 ?_ ?_ | refine vp h22 ?_ ?_); focus (first | exact ⟨rfl, .inl ⟨by first | rfl | simp only [go_sem, encN, List.map_cons, List.map_nil, AV.pureL, AV.pure], by first | (simp only [go_sem, encN, List.map_cons, List.map_nil]; done) | rfl⟩⟩ | exact ⟨rfl, .inr ⟨rfl, by simp only [go_sem, encN, List.map_cons, List.map_nil]⟩⟩)) | (simp only [go_sem, encN, List.map_cons, List.map_nil])))
theorem bF_zero {val : List Int → Int} {L : List (List Int)} : W2.bF val L = 0 ↔ L ≠ [] := by
  have h1 : ∀ (L : List (List Int)) (o : Option (List Int × Int)), o ≠ none → L.foldl (W2.bstep val) o ≠ none := by
    intro L
    induction L with
    | nil => intro o h; exact h
    | cons x L ih =>
      intro o h
      refine ih _ ?_
      cases o with
      | none => exact absurd rfl h
      | some b => unfold W2.bstep; simp only; split <;> simp
  unfold W2.bF W2.bst
  cases L with
  | nil => simp
  | cons x L =>
    have := h1 L (W2.bstep val none x) (by unfold W2.bstep; simp)
    simp only [List.foldl_cons]
    split
    · simp
    · rename_i h; exact absurd h this
theorem kn_valid {s : W2.Shop} (hv : W2.valid s) : W2.kn s True = if W2.aW s = [] then 3 else 0 := by unfold W2.kn; simp [hv]
set_option maxHeartbeats 8000000 in
theorem c3 (a : Hall) (s : W2.Shop) : PC Tryz.prog 3 [hH a, W2.hS s] (.bool true) := by
  have hc7 := c7
  by_cases hfar : farH a
  · skip
    refine PC.body Tryz.func3 (by kernel_rfl) rfl (by simp [Tryz.f3]) rfl ?_
    simp only [Tryz.f3]
    intro hlen
    simp only [go_sem, List.length_map, and_true, true_and] at hlen
    refine CV.run ?_
    (repeat' (first | ((with_reducible first | refine vcG_split ?_ ?_ | refine vcIf_split ?_ ?_ | refine vcQ_split ?_ ?_ | refine vcDG_split ?_ ?_) <;> intro hb <;> (try rw [hb]) <;> (try simp only [bq, bz, dtrue, dfalse] at hb) <;> (try simp only [within] at hb) <;> try (simp only [go_sem, hfar])) | refine And.intro (by first | exact trivial | omega | (simp only [I64]; omega)) ?_ | (with_reducible rw [vc_draw_eq]; first | (refine CV.draw (id := 14) sG07a_f3_14 mixed rfl (by kernel_rfl) ?_; delta sG07a_f3_14) | (refine CV.draw (id := 28) sG07a_f3_28 mixed rfl (by kernel_rfl) ?_; delta sG07a_f3_28)) | ((with_reducible first | refine vp (c4 a) ?_ ?_ | refine dc (c4 a) ?_ ?_ | refine vp hc7 ?_ ?_ | refine dc hc7 ?_ ?_); focus (first | exact ⟨rfl, .inl ⟨by first | rfl | simp only [go_sem, hfar, AV.pureL, AV.pure], by first | (simp only [go_sem, hfar]; done) | rfl⟩⟩ | exact ⟨rfl, .inr ⟨rfl, by simp only [go_sem, hfar]⟩⟩)) | ((with_reducible first | refine dp (c4 a) ?_ ?_ | refine dp hc7 ?_ ?_); focus exact ⟨rfl, by first | rfl | simp only [go_sem, hfar, AV.pureL, AV.pure], by first | (simp only [go_sem, hfar]; done) | rfl⟩) | ((with_reducible first | refine ds (c4 a) ?_ ?_ | refine ds hc7 ?_ ?_); focus exact ⟨rfl, rfl⟩) | (simp only [go_sem, hfar])))
  by_cases hok : okH a
  rotate_left
  · skip
    refine PC.body Tryz.func3 (by kernel_rfl) rfl (by simp [Tryz.f3]) rfl ?_
    simp only [Tryz.f3]
    intro hlen
    simp only [go_sem, List.length_map, and_true, true_and] at hlen
    refine CV.run ?_
    (repeat' (first | ((with_reducible first | refine vcG_split ?_ ?_ | refine vcIf_split ?_ ?_ | refine vcQ_split ?_ ?_ | refine vcDG_split ?_ ?_) <;> intro hb <;> (try rw [hb]) <;> (try simp only [bq, bz, dtrue, dfalse] at hb) <;> (try simp only [within] at hb) <;> try (simp only [go_sem, hfar, checkH0, hok])) | refine And.intro (by first | exact trivial | omega | (simp only [I64]; omega)) ?_ | (with_reducible rw [vc_draw_eq]; first | (refine CV.draw (id := 14) sG07a_f3_14 mixed rfl (by kernel_rfl) ?_; delta sG07a_f3_14) | (refine CV.draw (id := 28) sG07a_f3_28 mixed rfl (by kernel_rfl) ?_; delta sG07a_f3_28)) | ((with_reducible first | refine vp (c4 a) ?_ ?_ | refine dc (c4 a) ?_ ?_ | refine vp (c5 a) ?_ ?_ | refine dc (c5 a) ?_ ?_ | refine vp hc7 ?_ ?_ | refine dc hc7 ?_ ?_); focus (first | exact ⟨rfl, .inl ⟨by first | rfl | simp only [go_sem, hfar, checkH0, hok, AV.pureL, AV.pure], by first | (simp only [go_sem, hfar, checkH0, hok]; done) | rfl⟩⟩ | exact ⟨rfl, .inr ⟨rfl, by simp only [go_sem, hfar, checkH0, hok]⟩⟩)) | ((with_reducible first | refine dp (c4 a) ?_ ?_ | refine dp (c5 a) ?_ ?_ | refine dp hc7 ?_ ?_); focus exact ⟨rfl, by first | rfl | simp only [go_sem, hfar, checkH0, hok, AV.pureL, AV.pure], by first | (simp only [go_sem, hfar, checkH0, hok]; done) | rfl⟩) | ((with_reducible first | refine ds (c4 a) ?_ ?_ | refine ds (c5 a) ?_ ?_ | refine ds hc7 ?_ ?_); focus exact ⟨rfl, rfl⟩) | (simp only [go_sem, hfar, checkH0, hok])))
  by_cases hhu : W2.huge s
  · skip
    refine PC.body Tryz.func3 (by kernel_rfl) rfl (by simp [Tryz.f3]) rfl ?_
    simp only [Tryz.f3]
    intro hlen
    simp only [go_sem, List.length_map, and_true, true_and] at hlen
    refine CV.run ?_
    (repeat' (first | ((with_reducible first | refine vcG_split ?_ ?_ | refine vcIf_split ?_ ?_ | refine vcQ_split ?_ ?_ | refine vcDG_split ?_ ?_) <;> intro hb <;> (try rw [hb]) <;> (try simp only [bq, bz, dtrue, dfalse] at hb) <;> (try simp only [within] at hb) <;> try (simp only [go_sem, hfar, checkH0, hok, hhu])) | refine And.intro (by first | exact trivial | omega | (simp only [I64]; omega)) ?_ | (with_reducible rw [vc_draw_eq]; first | (refine CV.draw (id := 14) sG07a_f3_14 mixed rfl (by kernel_rfl) ?_; delta sG07a_f3_14) | (refine CV.draw (id := 28) sG07a_f3_28 mixed rfl (by kernel_rfl) ?_; delta sG07a_f3_28)) | (refine vp (W2.c6 s) ?_ ?_; focus (first | exact ⟨rfl, .inl ⟨by first | rfl | simp only [go_sem, hfar, checkH0, hok, hhu, AV.pureL, AV.pure], by first | (simp only [go_sem, hfar, checkH0, hok, hhu]; done) | rfl⟩⟩ | exact ⟨rfl, .inr ⟨rfl, by simp only [go_sem, hfar, checkH0, hok, hhu]⟩⟩)) | (refine dp (W2.c6 s) ?_ ?_; focus exact ⟨rfl, by first | rfl | simp only [go_sem, hfar, checkH0, hok, hhu, AV.pureL, AV.pure], by first | (simp only [go_sem, hfar, checkH0, hok, hhu]; done) | rfl⟩) | (refine ds (W2.c6 s) ?_ ?_; focus exact ⟨rfl, rfl⟩) | ((with_reducible first | refine vp (c4 a) ?_ ?_ | refine dc (c4 a) ?_ ?_ | refine vp (c5 a) ?_ ?_ | refine dc (c5 a) ?_ ?_ | refine vp hc7 ?_ ?_ | refine dc hc7 ?_ ?_); focus (first | exact ⟨rfl, .inl ⟨by first | rfl | simp only [go_sem, hfar, checkH0, hok, hhu, AV.pureL, AV.pure], by first | (simp only [go_sem, hfar, checkH0, hok, hhu]; done) | rfl⟩⟩ | exact ⟨rfl, .inr ⟨rfl, by simp only [go_sem, hfar, checkH0, hok, hhu]⟩⟩)) | ((with_reducible first | refine dp (c4 a) ?_ ?_ | refine dp (c5 a) ?_ ?_ | refine dp hc7 ?_ ?_); focus exact ⟨rfl, by first | rfl | simp only [go_sem, hfar, checkH0, hok, hhu, AV.pureL, AV.pure], by first | (simp only [go_sem, hfar, checkH0, hok, hhu]; done) | rfl⟩) | ((with_reducible first | refine ds (c4 a) ?_ ?_ | refine ds (c5 a) ?_ ?_ | refine ds hc7 ?_ ?_); focus exact ⟨rfl, rfl⟩) | (simp only [go_sem, hfar, checkH0, hok, hhu])))
  have h3 : a.hs.bs.length ≤ 3 := by
    unfold farH at hfar
    by_cases h : 3 < a.hs.bs.length
    · exact absurd (.inr ⟨h, hok⟩) hfar
    · omega
  have h8 := c8 a hok h3
  have hcok := can_ok hok h3
  have h10 := W2.c10 s hhu
  refine PC.body Tryz.func3 (by kernel_rfl) rfl (by simp [Tryz.f3]) rfl ?_
  simp only [Tryz.f3]
  intro hlen
  simp only [go_sem, List.length_map, and_true, true_and] at hlen
  refine CV.run ?_
  (repeat' (first | ((with_reducible first | refine vcG_split ?_ ?_ | refine vcIf_split ?_ ?_ | refine vcQ_split ?_ ?_ | refine vcDG_split ?_ ?_) <;> intro hb <;> (try rw [hb]) <;> (try simp only [bq, bz, dtrue, dfalse] at hb) <;> (try simp only [within] at hb) <;> try (simp only [go_sem, hfar, checkH0, hok, hhu])) | refine And.intro (by first | exact trivial | omega | (simp only [I64]; omega)) ?_ | (with_reducible rw [vc_draw_eq]; first | (refine CV.draw (id := 14) sG07a_f3_14 mixed rfl (by kernel_rfl) ?_; delta sG07a_f3_14) | (refine CV.draw (id := 28) sG07a_f3_28 mixed rfl (by kernel_rfl) ?_; delta sG07a_f3_28)) | (refine vp (W2.c6 s) ?_ ?_; focus (first | exact ⟨rfl, .inl ⟨by first | rfl | simp only [go_sem, hfar, checkH0, hok, hhu, AV.pureL, AV.pure], by first | (simp only [go_sem, hfar, checkH0, hok, hhu]; done) | rfl⟩⟩ | exact ⟨rfl, .inr ⟨rfl, by simp only [go_sem, hfar, checkH0, hok, hhu]⟩⟩)) | (refine dp (W2.c6 s) ?_ ?_; focus exact ⟨rfl, by first | rfl | simp only [go_sem, hfar, checkH0, hok, hhu, AV.pureL, AV.pure], by first | (simp only [go_sem, hfar, checkH0, hok, hhu]; done) | rfl⟩) | (refine ds (W2.c6 s) ?_ ?_; focus exact ⟨rfl, rfl⟩) | ((with_reducible first | refine vp (c4 a) ?_ ?_ | refine dc (c4 a) ?_ ?_ | refine vp (c5 a) ?_ ?_ | refine dc (c5 a) ?_ ?_); focus (first | exact ⟨rfl, .inl ⟨by first | rfl | simp only [go_sem, hfar, checkH0, hok, hhu, AV.pureL, AV.pure], by first | (simp only [go_sem, hfar, checkH0, hok, hhu]; done) | rfl⟩⟩ | exact ⟨rfl, .inr ⟨rfl, by simp only [go_sem, hfar, checkH0, hok, hhu]⟩⟩)) | ((with_reducible first | refine dp (c4 a) ?_ ?_ | refine dp (c5 a) ?_ ?_); focus exact ⟨rfl, by first | rfl | simp only [go_sem, hfar, checkH0, hok, hhu, AV.pureL, AV.pure], by first | (simp only [go_sem, hfar, checkH0, hok, hhu]; done) | rfl⟩) | ((with_reducible first | refine ds (c4 a) ?_ ?_ | refine ds (c5 a) ?_ ?_); focus exact ⟨rfl, rfl⟩) | (simp only [go_sem, hfar, checkH0, hok, hhu])))
  refine vcP_pure h8 (setR_pure _) rfl (by (simp only [go_sem])) ?_
  generalize fewL (canL a) zer12 = N at *
  cases N with
  | none =>
    (repeat' (first | ((with_reducible first | refine vcG_split ?_ ?_ | refine vcIf_split ?_ ?_ | refine vcQ_split ?_ ?_ | refine vcDG_split ?_ ?_) <;> intro hb <;> (try rw [hb]) <;> (try simp only [bq, bz, dtrue, dfalse] at hb) <;> (try simp only [within] at hb) <;> try (simp only [go_sem, setR])) | refine And.intro (by first | exact trivial | omega | (simp only [I64]; omega)) ?_ | (with_reducible rw [vc_draw_eq]; first | (refine CV.draw (id := 14) sG07a_f3_14 mixed rfl (by kernel_rfl) ?_; delta sG07a_f3_14) | (refine CV.draw (id := 28) sG07a_f3_28 mixed rfl (by kernel_rfl) ?_; delta sG07a_f3_28)) | ((with_reducible first | refine vp hc7 ?_ ?_ | refine dc hc7 ?_ ?_); focus (first | exact ⟨rfl, .inl ⟨by first | rfl | simp only [go_sem, setR, AV.pureL, AV.pure], by first | (simp only [go_sem, setR]; done) | rfl⟩⟩ | exact ⟨rfl, .inr ⟨rfl, by simp only [go_sem, setR]⟩⟩)) | ((with_reducible first | refine dp hc7 ?_ ?_); focus exact ⟨rfl, by first | rfl | simp only [go_sem, setR, AV.pureL, AV.pure], by first | (simp only [go_sem, setR]; done) | rfl⟩) | ((with_reducible first | refine ds hc7 ?_ ?_); focus exact ⟨rfl, rfl⟩) | (simp only [go_sem, setR])))
  | some S =>
    have hS := hcok S rfl
    have hL := setTo_len S 12
    have h9 := c9 (setTo S 12) (by omega)
    have hset := (setTo_ok hS 12 (by omega)).1
    simp only [setR]
    generalize setTo S 12 = L at *
    have hl40 : ¬ (40 : Int) < L.length := by omega
    (repeat' (first | ((with_reducible first | refine vcG_split ?_ ?_ | refine vcIf_split ?_ ?_ | refine vcQ_split ?_ ?_ | refine vcDG_split ?_ ?_) <;> intro hb <;> (try rw [hb]) <;> (try simp only [bq, bz, dtrue, dfalse] at hb) <;> (try simp only [within] at hb) <;> try (simp only [go_sem, hl40, hset, List.length_map])) | refine And.intro (by first | exact trivial | omega | (simp only [I64]; omega)) ?_ | (with_reducible rw [vc_draw_eq]; first | (refine CV.draw (id := 14) sG07a_f3_14 mixed rfl (by kernel_rfl) ?_; delta sG07a_f3_14) | (refine CV.draw (id := 28) sG07a_f3_28 mixed rfl (by kernel_rfl) ?_; delta sG07a_f3_28)) | ((with_reducible first | refine vp h9 ?_ ?_ | refine dc h9 ?_ ?_ | refine vp h10 ?_ ?_ | refine dc h10 ?_ ?_); focus (first | exact ⟨rfl, .inl ⟨by first | rfl | simp only [go_sem, hl40, hset, List.length_map, AV.pureL, AV.pure], by first | (simp only [go_sem, hl40, hset, List.length_map]; done) | rfl⟩⟩ | exact ⟨rfl, .inr ⟨rfl, by simp only [go_sem, hl40, hset, List.length_map]⟩⟩)) | ((with_reducible first | refine dp h9 ?_ ?_ | refine dp h10 ?_ ?_); focus exact ⟨rfl, by first | rfl | simp only [go_sem, hl40, hset, List.length_map, AV.pureL, AV.pure], by first | (simp only [go_sem, hl40, hset, List.length_map]; done) | rfl⟩) | ((with_reducible first | refine ds h9 ?_ ?_ | refine ds h10 ?_ ?_); focus exact ⟨rfl, rfl⟩) | (simp only [go_sem, hl40, hset, List.length_map])))
    refine vc_fx (fun j (w : List Int) => ⟨[(8, .int .i64 j), (7, .lp 2 0), (5, .lst false 3 (L.map encS)), (4, .bool false)], [.box 29 (cH a) false, .box 32 (W2.cS s) false, .box 32 [.lst false 3 (s.ms.map W2.encD), .lst false 1 (s.ws.map W2.encW), .row 3 3, .int .i64 s.fr] false, .row 3 1 (w.map encN) false]⟩) L.length (fun j w => w.length = 3 ∧ ∀ x, x ∈ w → 0 ≤ x ∧ x ≤ 9 * j) [0, 0, 0] (.base (by (first | exact wk_same (by (simp only [go_sem, Int.natCast_add, cn, Int.cast_ofNat_Int, encN, List.map_cons, List.map_nil])) | (refine wk_drop ?_ ?_ ?_ ?_ ?_ <;> (simp only [go_sem, Int.natCast_add, cn, Int.cast_ofNat_Int, encN, List.map_cons, List.map_nil]))))) ⟨rfl, fun x hx => by simp at hx; omega⟩ ?_
    intro j w hj ⟨hw, hwb⟩
    rcases Nat.lt_or_ge j L.length with hlt | hge
    · obtain ⟨e, he, e1, e2, e3, _⟩ := hset j hlt
      have hlt' : (j : Int) < L.length := by omega
      obtain ⟨pg, bo, my⟩ := e
      unfold within at e1 e2 e3
      simp only at e1 e2 e3
      obtain ⟨pn, rfl⟩ : ∃ k : Nat, pg = k := ⟨pg.toNat, by omega⟩
      by_cases hp3 : (pn : Int) < 3
      · obtain ⟨x, hx⟩ := get_of (l := w) (j := pn) (by omega)
        have hxb := hwb x (List.mem_of_getElem? hx)
        have hpn : pn < 3 := by omega
        (repeat' (first | ((with_reducible first | refine vcG_split ?_ ?_ | refine vcIf_split ?_ ?_ | refine vcQ_split ?_ ?_ | refine vcDG_split ?_ ?_) <;> intro hb <;> (try rw [hb]) <;> (try simp only [bq, bz, dtrue, dfalse] at hb) <;> (try simp only [within] at hb) <;> try (simp only [go_sem, hlt', he, encS, hp3, hpn, hx, hw, encN, List.length_map])) | refine And.intro (by first | exact trivial | omega | (simp only [I64]; omega)) ?_ | (with_reducible rw [vc_draw_eq]; first | (refine CV.draw (id := 14) sG07a_f3_14 mixed rfl (by kernel_rfl) ?_; delta sG07a_f3_14) | (refine CV.draw (id := 28) sG07a_f3_28 mixed rfl (by kernel_rfl) ?_; delta sG07a_f3_28)) | (simp only [go_sem, hlt', he, encS, hp3, hpn, hx, hw, encN, List.length_map])))
        have hms : (w.map encN).set pn [.int .i64 (x + my)] = (w.set pn (x + my)).map encN := by rw [List.map_set]; rfl
        refine ⟨w.set pn (x + my), hlt, .base (by (first | exact wk_same (by (simp only [go_sem, Int.natCast_add, cn, Int.cast_ofNat_Int, hms])) | (refine wk_drop ?_ ?_ ?_ ?_ ?_ <;> (simp only [go_sem, Int.natCast_add, cn, Int.cast_ofNat_Int, hms])))), by simpa using hw, fun y hy => ?_⟩
        rcases List.mem_or_eq_of_mem_set hy with hy | rfl
        · have := hwb y hy; omega
        · omega
      · (repeat' (first | ((with_reducible first | refine vcG_split ?_ ?_ | refine vcIf_split ?_ ?_ | refine vcQ_split ?_ ?_ | refine vcDG_split ?_ ?_) <;> intro hb <;> (try rw [hb]) <;> (try simp only [bq, bz, dtrue, dfalse] at hb) <;> (try simp only [within] at hb) <;> try (simp only [go_sem, hlt', he, encS, hp3])) | refine And.intro (by first | exact trivial | omega | (simp only [I64]; omega)) ?_ | (with_reducible rw [vc_draw_eq]; first | (refine CV.draw (id := 14) sG07a_f3_14 mixed rfl (by kernel_rfl) ?_; delta sG07a_f3_14) | (refine CV.draw (id := 28) sG07a_f3_28 mixed rfl (by kernel_rfl) ?_; delta sG07a_f3_28)) | (simp only [go_sem, hlt', he, encS, hp3])))
        exact ⟨w, hlt, .base (by (first | exact wk_same (by (simp only [go_sem, Int.natCast_add, cn, Int.cast_ofNat_Int])) | (refine wk_drop ?_ ?_ ?_ ?_ ?_ <;> (simp only [go_sem, Int.natCast_add, cn, Int.cast_ofNat_Int])))), hw, fun x hx => by have := hwb x hx; omega⟩
    · have hge' : ¬ (j : Int) < L.length := by omega
      have hck := W2.c11 ⟨s.ms, s.ws, w, s.fr⟩
      (repeat' (first | ((with_reducible first | refine vcG_split ?_ ?_ | refine vcIf_split ?_ ?_ | refine vcQ_split ?_ ?_ | refine vcDG_split ?_ ?_) <;> intro hb <;> (try rw [hb]) <;> (try simp only [bq, bz, dtrue, dfalse] at hb) <;> (try simp only [within] at hb) <;> try (simp only [go_sem, hge'])) | refine And.intro (by first | exact trivial | omega | (simp only [I64]; omega)) ?_ | (with_reducible rw [vc_draw_eq]; first | (refine CV.draw (id := 14) sG07a_f3_14 mixed rfl (by kernel_rfl) ?_; delta sG07a_f3_14) | (refine CV.draw (id := 28) sG07a_f3_28 mixed rfl (by kernel_rfl) ?_; delta sG07a_f3_28)) | (simp only [go_sem, hge'])))
      refine vcP_safe hck rfl rfl (by (simp only [go_sem, hw, List.length_map])) ?_
      by_cases hv : W2.valid ⟨s.ms, s.ws, w, s.fr⟩
      rotate_left
      · (repeat' (first | ((with_reducible first | refine vcG_split ?_ ?_ | refine vcIf_split ?_ ?_ | refine vcQ_split ?_ ?_ | refine vcDG_split ?_ ?_) <;> intro hb <;> (try rw [hb]) <;> (try simp only [bq, bz, dtrue, dfalse] at hb) <;> (try simp only [within] at hb) <;> try (simp only [go_sem, W2.check0, hv])) | refine And.intro (by first | exact trivial | omega | (simp only [I64]; omega)) ?_ | (with_reducible rw [vc_draw_eq]; first | (refine CV.draw (id := 14) sG07a_f3_14 mixed rfl (by kernel_rfl) ?_; delta sG07a_f3_14) | (refine CV.draw (id := 28) sG07a_f3_28 mixed rfl (by kernel_rfl) ?_; delta sG07a_f3_28)) | ((with_reducible first | refine vp hc7 ?_ ?_ | refine dc hc7 ?_ ?_); focus (first | exact ⟨rfl, .inl ⟨by first | rfl | simp only [go_sem, W2.check0, hv, AV.pureL, AV.pure], by first | (simp only [go_sem, W2.check0, hv]; done) | rfl⟩⟩ | exact ⟨rfl, .inr ⟨rfl, by simp only [go_sem, W2.check0, hv]⟩⟩)) | ((with_reducible first | refine dp hc7 ?_ ?_); focus exact ⟨rfl, by first | rfl | simp only [go_sem, W2.check0, hv, AV.pureL, AV.pure], by first | (simp only [go_sem, W2.check0, hv]; done) | rfl⟩) | ((with_reducible first | refine ds hc7 ?_ ?_); focus exact ⟨rfl, rfl⟩) | (simp only [go_sem, W2.check0, hv])))
      · have hc12 := W2.c12 ⟨s.ms, s.ws, w, s.fr⟩
        have hc13 := W2.c13 ⟨s.ms, s.ws, w, s.fr⟩
        (repeat' (first | ((with_reducible first | refine vcG_split ?_ ?_ | refine vcIf_split ?_ ?_ | refine vcQ_split ?_ ?_ | refine vcDG_split ?_ ?_) <;> intro hb <;> (try rw [hb]) <;> (try simp only [bq, bz, dtrue, dfalse] at hb) <;> (try simp only [within] at hb) <;> try (simp only [go_sem, W2.check0, hv])) | refine And.intro (by first | exact trivial | omega | (simp only [I64]; omega)) ?_ | (with_reducible rw [vc_draw_eq]; first | (refine CV.draw (id := 14) sG07a_f3_14 mixed rfl (by kernel_rfl) ?_; delta sG07a_f3_14) | (refine CV.draw (id := 28) sG07a_f3_28 mixed rfl (by kernel_rfl) ?_; delta sG07a_f3_28)) | (simp only [go_sem, W2.check0, hv])))
        refine vcP_row 3 rfl (by (simp only [go_sem, pureN])) (vcP_pure hc12 rfl (by (simp only [go_sem, hw, List.length_map, false_and, if_false])) (by (simp only [go_sem, hw, List.length_map, false_and, if_false])) ?_)
        (repeat' (first | ((with_reducible first | refine vcG_split ?_ ?_ | refine vcIf_split ?_ ?_ | refine vcQ_split ?_ ?_ | refine vcDG_split ?_ ?_) <;> intro hb <;> (try rw [hb]) <;> (try simp only [bq, bz, dtrue, dfalse] at hb) <;> (try simp only [within] at hb) <;> try (simp only [go_sem, hw, List.length_map, sub_mapN'])) | refine And.intro (by first | exact trivial | omega | (simp only [I64]; omega)) ?_ | (with_reducible rw [vc_draw_eq]; first | (refine CV.draw (id := 14) sG07a_f3_14 mixed rfl (by kernel_rfl) ?_; delta sG07a_f3_14) | (refine CV.draw (id := 28) sG07a_f3_28 mixed rfl (by kernel_rfl) ?_; delta sG07a_f3_28)) | (simp only [go_sem, hw, List.length_map, sub_mapN'])))
        refine vcP_pure hc13 rfl (by (simp only [go_sem])) (by (simp only [go_sem])) ?_
        have hknv := kn_valid hv
        by_cases hne : W2.aW ⟨s.ms, s.ws, w, s.fr⟩ = []
        · rw [if_pos hne] at hknv
          have n1 : W2.rNew ⟨s.ms, s.ws, w, s.fr⟩ = (0, 3) := by unfold W2.rNew W2.ans; rw [hknv]; rfl
          have n2 : W2.rDivide ⟨s.ms, s.ws, w, s.fr⟩ = ([], 3) := by unfold W2.rDivide; rw [hknv]; rfl
          (repeat' (first | ((with_reducible first | refine vcG_split ?_ ?_ | refine vcIf_split ?_ ?_ | refine vcQ_split ?_ ?_ | refine vcDG_split ?_ ?_) <;> intro hb <;> (try rw [hb]) <;> (try simp only [bq, bz, dtrue, dfalse] at hb) <;> (try simp only [within] at hb) <;> try (simp only [go_sem, n1, n2])) | refine And.intro (by first | exact trivial | omega | (simp only [I64]; omega)) ?_ | (with_reducible rw [vc_draw_eq]; first | (refine CV.draw (id := 14) sG07a_f3_14 mixed rfl (by kernel_rfl) ?_; delta sG07a_f3_14) | (refine CV.draw (id := 28) sG07a_f3_28 mixed rfl (by kernel_rfl) ?_; delta sG07a_f3_28)) | ((with_reducible first | refine vp hc7 ?_ ?_ | refine dc hc7 ?_ ?_); focus (first | exact ⟨rfl, .inl ⟨by first | rfl | simp only [go_sem, n1, n2, AV.pureL, AV.pure], by first | (simp only [go_sem, n1, n2]; done) | rfl⟩⟩ | exact ⟨rfl, .inr ⟨rfl, by simp only [go_sem, n1, n2]⟩⟩)) | ((with_reducible first | refine dp hc7 ?_ ?_); focus exact ⟨rfl, by first | rfl | simp only [go_sem, n1, n2, AV.pureL, AV.pure], by first | (simp only [go_sem, n1, n2]; done) | rfl⟩) | ((with_reducible first | refine ds hc7 ?_ ?_); focus exact ⟨rfl, rfl⟩) | (simp only [go_sem, n1, n2])))
        · rw [if_neg hne] at hknv
          have n1 : W2.rNew ⟨s.ms, s.ws, w, s.fr⟩ = (W2.neN ⟨s.ms, s.ws, w, s.fr⟩, 0) := by unfold W2.rNew W2.ans; rw [hknv]; rfl
          have n2 : (W2.rDivide ⟨s.ms, s.ws, w, s.fr⟩).2 = 0 ↔ W2.neN ⟨s.ms, s.ws, w, s.fr⟩ = 0 := by
            unfold W2.rDivide
            rw [if_pos hknv]
            simp only
            rw [bF_zero, W2.sure_new hv hne]
          have hdv : ∃ dl de, W2.rDivide ⟨s.ms, s.ws, w, s.fr⟩ = (dl, de) := ⟨_, _, rfl⟩
          obtain ⟨dl, de, hde⟩ := hdv
          rw [hde] at n2
          simp only at n2
          (repeat' (first | ((with_reducible first | refine vcG_split ?_ ?_ | refine vcIf_split ?_ ?_ | refine vcQ_split ?_ ?_ | refine vcDG_split ?_ ?_) <;> intro hb <;> (try rw [hb]) <;> (try simp only [bq, bz, dtrue, dfalse] at hb) <;> (try simp only [within] at hb) <;> try (simp only [go_sem, n1, hde])) | refine And.intro (by first | exact trivial | omega | (simp only [I64]; omega)) ?_ | (with_reducible rw [vc_draw_eq]; first | (refine CV.draw (id := 14) sG07a_f3_14 mixed rfl (by kernel_rfl) ?_; delta sG07a_f3_14) | (refine CV.draw (id := 28) sG07a_f3_28 mixed rfl (by kernel_rfl) ?_; delta sG07a_f3_28)) | (simp only [go_sem, n1, hde])))
          refine vc_for (fun p => ⟨[(14, .int .i64 p), (13, .int .i64 (W2.neT ⟨s.ms, s.ws, w, s.fr⟩ p)), (12, .int .i64 de), (9, .int .i64 (W2.neN ⟨s.ms, s.ws, w, s.fr⟩)), (7, .lp 2 0), (4, .bool false)], [.box 29 (cH a) false, .box 32 (W2.cS s) false, .box 32 [.lst false 3 (s.ms.map W2.encD), .lst false 1 (s.ws.map W2.encW), lN w, .int .i64 s.fr] false, .row 3 1 (w.map encN) true]⟩) 3 (fun _ => True) (by (first | exact wk_same (by (simp only [go_sem, Int.natCast_add, cn, Int.cast_ofNat_Int, W2.neT])) | (refine wk_drop ?_ ?_ ?_ ?_ ?_ <;> (simp only [go_sem, Int.natCast_add, cn, Int.cast_ofNat_Int, W2.neT])))) trivial ?_
          intro p hp _
          rcases Nat.lt_or_ge p 3 with hlt2 | hge2
          · obtain ⟨x, hx⟩ := get_of (l := w) (j := p) (by omega)
            have hlt2' : (p : Int) < 3 := by omega
            have hc14 := W2.c14 ⟨s.ms, s.ws, w, s.fr⟩ p
            have hsu := W2.sur_bounds hv p
            have n3 : W2.rSure ⟨s.ms, s.ws, w, s.fr⟩ p = (W2.sur ⟨s.ms, s.ws, w, s.fr⟩ p, 0) := by
              unfold W2.rSure W2.ans
              rw [if_pos (W2.kn0.2 ⟨hv, ⟨by omega, by simp only [hw]; omega⟩, hne⟩)]
            rw [n3] at hc14
            have hf := hv.2.2.2.1
            have hxw := hv.2.2.2.2.1 x (List.mem_of_getElem? hx)
            unfold within at hf hxw
            simp only at hf
            have en1 : W2.ne1 ⟨s.ms, s.ws, w, s.fr⟩ p = (max 0 (x - W2.sur ⟨s.ms, s.ws, w, s.fr⟩ p) + s.fr - 1) / s.fr := by unfold W2.ne1; simp [hx]
            have hb1 := W2.ne1_bounds hv p
            have hb2 := W2.neT_bounds hv p
            have enT : W2.neT ⟨s.ms, s.ws, w, s.fr⟩ (p + 1) = W2.neT ⟨s.ms, s.ws, w, s.fr⟩ p + (max 0 (x - W2.sur ⟨s.ms, s.ws, w, s.fr⟩ p) + s.fr - 1) / s.fr := by rw [W2.neT, en1]
            rw [en1] at hb1
            (repeat' (first | ((with_reducible first | refine vcG_split ?_ ?_ | refine vcIf_split ?_ ?_ | refine vcQ_split ?_ ?_ | refine vcDG_split ?_ ?_) <;> intro hb <;> (try rw [hb]) <;> (try simp only [bq, bz, dtrue, dfalse] at hb) <;> (try simp only [within] at hb) <;> try (simp only [go_sem, hlt2', hx, encN])) | refine And.intro (by first | exact trivial | omega | (simp only [I64]; omega)) ?_ | (with_reducible rw [vc_draw_eq]; first | (refine CV.draw (id := 14) sG07a_f3_14 mixed rfl (by kernel_rfl) ?_; delta sG07a_f3_14) | (refine CV.draw (id := 28) sG07a_f3_28 mixed rfl (by kernel_rfl) ?_; delta sG07a_f3_28)) | ((with_reducible first | refine vp hc14 ?_ ?_ | refine dc hc14 ?_ ?_); focus (first | exact ⟨rfl, .inl ⟨by first | rfl | simp only [go_sem, hlt2', hx, encN, AV.pureL, AV.pure], by first | (simp only [go_sem, hlt2', hx, encN]; done) | rfl⟩⟩ | exact ⟨rfl, .inr ⟨rfl, by simp only [go_sem, hlt2', hx, encN]⟩⟩)) | ((with_reducible first | refine dp hc14 ?_ ?_); focus exact ⟨rfl, by first | rfl | simp only [go_sem, hlt2', hx, encN, AV.pureL, AV.pure], by first | (simp only [go_sem, hlt2', hx, encN]; done) | rfl⟩) | ((with_reducible first | refine ds hc14 ?_ ?_); focus exact ⟨rfl, rfl⟩) | (simp only [go_sem, hlt2', hx, encN])))
            all_goals first
              | (exfalso; omega)
              | skip
            generalize (max 0 (x - W2.sur ⟨s.ms, s.ws, w, s.fr⟩ p) + s.fr - 1) / s.fr = Q at hb1 enT ⊢
            exact (by (first | exact wk_same (by (simp only [go_sem, Int.natCast_add, cn, Int.cast_ofNat_Int, enT])) | (refine wk_drop ?_ ?_ ?_ ?_ ?_ <;> (simp only [go_sem, Int.natCast_add, cn, Int.cast_ofNat_Int, enT]))))
          · have : p = 3 := by omega
            subst this
            have e3 : W2.neN ⟨s.ms, s.ws, w, s.fr⟩ = W2.neT ⟨s.ms, s.ws, w, s.fr⟩ 3 := by unfold W2.neN; simp only [hw]
            rw [e3] at n2
            (repeat' (first | ((with_reducible first | refine vcG_split ?_ ?_ | refine vcIf_split ?_ ?_ | refine vcQ_split ?_ ?_ | refine vcDG_split ?_ ?_) <;> intro hb <;> (try rw [hb]) <;> (try simp only [bq, bz, dtrue, dfalse] at hb) <;> (try simp only [within] at hb) <;> try (simp only [go_sem, e3])) | refine And.intro (by first | exact trivial | omega | (simp only [I64]; omega)) ?_ | (with_reducible rw [vc_draw_eq]; first | (refine CV.draw (id := 14) sG07a_f3_14 mixed rfl (by kernel_rfl) ?_; delta sG07a_f3_14) | (refine CV.draw (id := 28) sG07a_f3_28 mixed rfl (by kernel_rfl) ?_; delta sG07a_f3_28)) | ((with_reducible first | refine vp hc7 ?_ ?_ | refine dc hc7 ?_ ?_); focus (first | exact ⟨rfl, .inl ⟨by first | rfl | simp only [go_sem, e3, AV.pureL, AV.pure], by first | (simp only [go_sem, e3]; done) | rfl⟩⟩ | exact ⟨rfl, .inr ⟨rfl, by simp only [go_sem, e3]⟩⟩)) | ((with_reducible first | refine dp hc7 ?_ ?_); focus exact ⟨rfl, by first | rfl | simp only [go_sem, e3, AV.pureL, AV.pure], by first | (simp only [go_sem, e3]; done) | rfl⟩) | ((with_reducible first | refine ds hc7 ?_ ?_); focus exact ⟨rfl, rfl⟩) | (simp only [go_sem, e3])))
            all_goals
              exfalso
              by_cases h0 : W2.neT ⟨s.ms, s.ws, w, s.fr⟩ 3 = 0
              · have h1 := n2.2 h0
                simp [h1, h0] at hb
              · have h1 : ¬ de = 0 := fun h => h0 (n2.1 h)
                simp [h1, h0] at hb
end Go.Proofs.YtoadkchhimojlaaGreat

