/- Contracts of functions of the given program, without a condition beyond those that each theorem states; they lead to the given statement. -/
import Derived.Test.YtoadkchhimojlaaGreatG05d
set_option linter.unusedSimpArgs false
set_option linter.unusedVariables false
set_option maxRecDepth 100000
namespace Go.Proofs.YtoadkchhimojlaaGreat
open Go Go.Fl
open Classical
def sG06c_f9_7 : List (Nat × Nat) := [(0, 0), (0, 0), (0, 0), (0, 0), (0, 0), (0, 0), (0, 0), (0, 0), (0, 0), (0, 0), (0, 0), (0, 0), (0, 0), (0, 0), (0, 0), (0, 0), (0, 0), (0, 0), (0, 0), (0, 0), (0, 0), (0, 0), (0, 0)]
def plc (e : Int × Int × Int) : Int := e.1 * 3 + e.2.1
def setAt (L : List (Int × Int × Int)) (j : Nat) : Prop := ∃ e, L[j]? = some e ∧ within e.1 0 3 ∧ within e.2.1 0 2 ∧ within e.2.2 1 9 ∧ (0 < j → ∃ d, L[j-1]? = some d ∧ plc d < plc e)
def isSetP (L : List (Int × Int × Int)) : Prop := ∀ j, j < L.length → setAt L j
theorem c27 (a b : Int) (ha : within a 0 3) (hb : within b 0 2) : PC Tryz.prog 27 [.int .i64 a, .int .i64 b] (.int .i64 (a * 3 + b)) := by
  unfold within at ha hb
  refine PC.body Tryz.func27 (by kernel_rfl) rfl (by simp [Tryz.f27]) rfl ?_
  simp only [Tryz.f27]
  intro hlen
  simp only [go_sem, List.length_map, and_true, true_and] at hlen
  refine CV.run ?_
  (repeat' (first | ((with_reducible first | refine vcG_split ?_ ?_ | refine vcIf_split ?_ ?_ | refine vcQ_split ?_ ?_ | refine vcDG_split ?_ ?_) <;> intro hb <;> (try rw [hb]) <;> (try simp only [bq, bz, dtrue, dfalse] at hb) <;> (try simp only [within] at hb) <;> try (simp only [go_sem])) | refine And.intro (by first | exact trivial | omega | (simp only [I64]; omega)) ?_ | (simp only [go_sem])))
  all_goals omega
theorem isSetP.snoc {L : List (Int × Int × Int)} {e : Int × Int × Int} (h : isSetP L) (h1 : within e.1 0 3) (h2 : within e.2.1 0 2) (h3 : within e.2.2 1 9) (h4 : ∀ d, d ∈ L → plc d < plc e) : isSetP (L ++ [e]) := by
  intro j hj
  rw [List.length_append] at hj
  simp only [List.length_cons, List.length_nil] at hj
  rcases Nat.lt_or_ge j L.length with hlt | hge
  · obtain ⟨x, e1, e2, e3, e4, e5⟩ := h j hlt
    refine ⟨x, by rw [List.getElem?_append_left hlt]; exact e1, e2, e3, e4, fun h0 => ?_⟩
    obtain ⟨d, d1, d2⟩ := e5 h0
    exact ⟨d, by rw [List.getElem?_append_left (by omega)]; exact d1, d2⟩
  · have : j = L.length := by omega
    subst this
    refine ⟨e, by simp, h1, h2, h3, fun h0 => ?_⟩
    obtain ⟨d, hd⟩ := get_of (l := L) (j := L.length - 1) (by omega)
    exact ⟨d, by rw [List.getElem?_append_left (by omega)]; exact hd, h4 d (List.mem_of_getElem? hd)⟩
theorem setTo_ok {s : List Int} (hs : okS s 3) : ∀ k : Nat, k ≤ 12 → isSetP (setTo s k) ∧ ∀ d, d ∈ setTo s k → plc d < k
  | 0, _ => ⟨fun j hj => by simp [setTo] at hj, fun d hd => by simp [setTo] at hd⟩
  | k + 1, hk => by
    obtain ⟨ih1, ih2⟩ := setTo_ok hs k (by omega)
    rw [setTo]
    have hb : gv s k ≤ 3 := by
      obtain ⟨x, hx⟩ := get_of (l := s) (j := k) (by rw [hs.1]; omega)
      rw [gv_nat hx]
      exact (hs.2 x (List.mem_of_getElem? hx)).2
    have hp : plc (((k / 3 : Nat) : Int), ((k % 3 : Nat) : Int), gv s k) = k := by unfold plc; simp only; omega
    split
    · rename_i h0
      refine ⟨ih1.snoc ⟨by simp only; omega, by simp only; omega⟩ ⟨by simp only; omega, by simp only; omega⟩ ⟨by simp only; omega, by simp only; omega⟩ fun d hd => by rw [hp]; exact ih2 d hd, fun d hd => ?_⟩
      rcases List.mem_append.1 hd with hd | hd
      · have := ih2 d hd; omega
      · rw [List.mem_singleton.1 hd, hp]; omega
    · exact ⟨ih1, fun d hd => by have := ih2 d hd; omega⟩
set_option maxHeartbeats 4000000 in
theorem c9 (L : List (Int × Int × Int)) (hl : L.length ≤ 1000) : PC Tryz.prog 9 [.lst false 3 (L.map encS)] (.bool (decide (isSetP L))) := by
  refine PC.body Tryz.func9 (by kernel_rfl) rfl (by simp [Tryz.f9]) rfl ?_
  simp only [Tryz.f9]
  intro hlen
  simp only [go_sem, List.length_map, and_true, true_and] at hlen
  refine CV.run ?_
  (repeat' (first | ((with_reducible first | refine vcG_split ?_ ?_ | refine vcIf_split ?_ ?_ | refine vcQ_split ?_ ?_ | refine vcDG_split ?_ ?_) <;> intro hb <;> (try rw [hb]) <;> (try simp only [bq, bz, dtrue, dfalse] at hb) <;> (try simp only [within] at hb) <;> try (simp only [go_sem])) | refine And.intro (by first | exact trivial | omega | (simp only [I64]; omega)) ?_ | (with_reducible rw [vc_draw_eq]; first | (refine CV.draw (id := 7) sG06c_f9_7 mixed rfl (by kernel_rfl) ?_; delta sG06c_f9_7)) | (simp only [go_sem])))
  refine vc_for (fun j => ⟨[(3, .int .i64 j), (2, .bool false), (0, .lst false 3 (L.map encS))], []⟩) L.length (fun j => ∀ i, i < j → setAt L i) (by (first | exact wk_same (by (simp only [go_sem, Int.natCast_add, cn, Int.cast_ofNat_Int])) | (refine wk_drop ?_ ?_ ?_ ?_ ?_ <;> (simp only [go_sem, Int.natCast_add, cn, Int.cast_ofNat_Int])))) (fun i h => by omega) ?_
  intro j hj hx
  rcases Nat.lt_or_ge j L.length with hlt | hge
  · obtain ⟨e, he⟩ := get_of hlt
    have hlt' : (j : Int) < L.length := by omega
    obtain ⟨d, hd⟩ := get_of (l := L) (j := ((j : Int) - 1).toNat) (by omega)
    have hjd : 0 < j → L[j-1]? = some d := fun h => by rw [← hd]; congr 1; omega
    have hdw : 0 < j → within d.1 0 3 ∧ within d.2.1 0 2 := fun h => by
      obtain ⟨x, x1, x2, x3, _⟩ := hx (j - 1) (by omega)
      rw [hjd h] at x1; cases x1; exact ⟨x2, x3⟩
    obtain ⟨e1, e2, e3⟩ := e
    obtain ⟨d1, d2, d3⟩ := d
    by_cases w1 : within e1 0 3
    · by_cases w2 : within e2 0 2
      · by_cases w3 : within e3 1 9
        · by_cases h0 : 0 < j
          · have h27e := c27 e1 e2 w1 w2
            have h27d := c27 d1 d2 (hdw h0).1 (hdw h0).2
            have h0' : 0 < (j : Int) := by omega
            (repeat' (first | ((with_reducible first | refine vcG_split ?_ ?_ | refine vcIf_split ?_ ?_ | refine vcQ_split ?_ ?_ | refine vcDG_split ?_ ?_) <;> intro hb <;> (try rw [hb]) <;> (try simp only [bq, bz, dtrue, dfalse] at hb) <;> (try simp only [within] at hb) <;> try (simp only [go_sem, hlt', he, hd, encS, w1, w2, w3, h0'])) | refine And.intro (by first | exact trivial | omega | (simp only [I64]; omega)) ?_ | (with_reducible rw [vc_draw_eq]; first | (refine CV.draw (id := 7) sG06c_f9_7 mixed rfl (by kernel_rfl) ?_; delta sG06c_f9_7)) | ((with_reducible first | refine vp (c17 _ _ _) ?_ ?_ | refine dc (c17 _ _ _) ?_ ?_ | refine vp h27e ?_ ?_ | refine dc h27e ?_ ?_ | refine vp h27d ?_ ?_ | refine dc h27d ?_ ?_); focus (first | exact ⟨rfl, .inl ⟨by first | rfl | simp only [go_sem, hlt', he, hd, encS, w1, w2, w3, h0', AV.pureL, AV.pure], by first | (simp only [go_sem, hlt', he, hd, encS, w1, w2, w3, h0']; done) | rfl⟩⟩ | exact ⟨rfl, .inr ⟨rfl, by simp only [go_sem, hlt', he, hd, encS, w1, w2, w3, h0']⟩⟩)) | ((with_reducible first | refine dp (c17 _ _ _) ?_ ?_ | refine dp h27e ?_ ?_ | refine dp h27d ?_ ?_); focus exact ⟨rfl, by first | rfl | simp only [go_sem, hlt', he, hd, encS, w1, w2, w3, h0', AV.pureL, AV.pure], by first | (simp only [go_sem, hlt', he, hd, encS, w1, w2, w3, h0']; done) | rfl⟩) | ((with_reducible first | refine ds (c17 _ _ _) ?_ ?_ | refine ds h27e ?_ ?_ | refine ds h27d ?_ ?_); focus exact ⟨rfl, rfl⟩) | (simp only [go_sem, hlt', he, hd, encS, w1, w2, w3, h0'])))
            · exact bf fun h => by
                obtain ⟨x, x1, _, _, _, x5⟩ := h j hlt
                rw [he] at x1; cases x1
                obtain ⟨y, y1, y2⟩ := x5 h0
                rw [hjd h0] at y1; cases y1
                unfold plc at y2
                simp only at y2
                omega
            · exact ⟨by (first | exact wk_same (by (simp only [go_sem, Int.natCast_add, cn, Int.cast_ofNat_Int])) | (refine wk_drop ?_ ?_ ?_ ?_ ?_ <;> (simp only [go_sem, Int.natCast_add, cn, Int.cast_ofNat_Int]))), fun i hi => by
                rcases Nat.lt_or_ge i j with h | h
                · exact hx i h
                · have : i = j := by omega
                  subst this
                  exact ⟨_, he, w1, w2, w3, fun _ => ⟨_, hjd h0, by unfold plc; simp only; omega⟩⟩⟩
          · have h0' : ¬ 0 < (j : Int) := by omega
            (repeat' (first | ((with_reducible first | refine vcG_split ?_ ?_ | refine vcIf_split ?_ ?_ | refine vcQ_split ?_ ?_ | refine vcDG_split ?_ ?_) <;> intro hb <;> (try rw [hb]) <;> (try simp only [bq, bz, dtrue, dfalse] at hb) <;> (try simp only [within] at hb) <;> try (simp only [go_sem, hlt', he, hd, encS, w1, w2, w3, h0'])) | refine And.intro (by first | exact trivial | omega | (simp only [I64]; omega)) ?_ | (with_reducible rw [vc_draw_eq]; first | (refine CV.draw (id := 7) sG06c_f9_7 mixed rfl (by kernel_rfl) ?_; delta sG06c_f9_7)) | ((with_reducible first | refine vp (c17 _ _ _) ?_ ?_ | refine dc (c17 _ _ _) ?_ ?_); focus (first | exact ⟨rfl, .inl ⟨by first | rfl | simp only [go_sem, hlt', he, hd, encS, w1, w2, w3, h0', AV.pureL, AV.pure], by first | (simp only [go_sem, hlt', he, hd, encS, w1, w2, w3, h0']; done) | rfl⟩⟩ | exact ⟨rfl, .inr ⟨rfl, by simp only [go_sem, hlt', he, hd, encS, w1, w2, w3, h0']⟩⟩)) | ((with_reducible first | refine dp (c17 _ _ _) ?_ ?_); focus exact ⟨rfl, by first | rfl | simp only [go_sem, hlt', he, hd, encS, w1, w2, w3, h0', AV.pureL, AV.pure], by first | (simp only [go_sem, hlt', he, hd, encS, w1, w2, w3, h0']; done) | rfl⟩) | ((with_reducible first | refine ds (c17 _ _ _) ?_ ?_); focus exact ⟨rfl, rfl⟩) | (simp only [go_sem, hlt', he, hd, encS, w1, w2, w3, h0'])))
            exact ⟨by (first | exact wk_same (by (simp only [go_sem, Int.natCast_add, cn, Int.cast_ofNat_Int])) | (refine wk_drop ?_ ?_ ?_ ?_ ?_ <;> (simp only [go_sem, Int.natCast_add, cn, Int.cast_ofNat_Int]))), fun i hi => by
                rcases Nat.lt_or_ge i j with h | h
                · exact hx i h
                · have : i = j := by omega
                  subst this
                  exact ⟨_, he, w1, w2, w3, fun h => absurd h h0⟩⟩
        · (repeat' (first | ((with_reducible first | refine vcG_split ?_ ?_ | refine vcIf_split ?_ ?_ | refine vcQ_split ?_ ?_ | refine vcDG_split ?_ ?_) <;> intro hb <;> (try rw [hb]) <;> (try simp only [bq, bz, dtrue, dfalse] at hb) <;> (try simp only [within] at hb) <;> try (simp only [go_sem, hlt', he, hd, encS, w1, w2, w3])) | refine And.intro (by first | exact trivial | omega | (simp only [I64]; omega)) ?_ | (with_reducible rw [vc_draw_eq]; first | (refine CV.draw (id := 7) sG06c_f9_7 mixed rfl (by kernel_rfl) ?_; delta sG06c_f9_7)) | ((with_reducible first | refine vp (c17 _ _ _) ?_ ?_ | refine dc (c17 _ _ _) ?_ ?_); focus (first | exact ⟨rfl, .inl ⟨by first | rfl | simp only [go_sem, hlt', he, hd, encS, w1, w2, w3, AV.pureL, AV.pure], by first | (simp only [go_sem, hlt', he, hd, encS, w1, w2, w3]; done) | rfl⟩⟩ | exact ⟨rfl, .inr ⟨rfl, by simp only [go_sem, hlt', he, hd, encS, w1, w2, w3]⟩⟩)) | ((with_reducible first | refine dp (c17 _ _ _) ?_ ?_); focus exact ⟨rfl, by first | rfl | simp only [go_sem, hlt', he, hd, encS, w1, w2, w3, AV.pureL, AV.pure], by first | (simp only [go_sem, hlt', he, hd, encS, w1, w2, w3]; done) | rfl⟩) | ((with_reducible first | refine ds (c17 _ _ _) ?_ ?_); focus exact ⟨rfl, rfl⟩) | (simp only [go_sem, hlt', he, hd, encS, w1, w2, w3])))
          exact bf fun h => by
            obtain ⟨x, x1, x2, x3, x4, _⟩ := h j hlt
            rw [he] at x1; cases x1
            exact w3 x4
      · (repeat' (first | ((with_reducible first | refine vcG_split ?_ ?_ | refine vcIf_split ?_ ?_ | refine vcQ_split ?_ ?_ | refine vcDG_split ?_ ?_) <;> intro hb <;> (try rw [hb]) <;> (try simp only [bq, bz, dtrue, dfalse] at hb) <;> (try simp only [within] at hb) <;> try (simp only [go_sem, hlt', he, hd, encS, w1, w2])) | refine And.intro (by first | exact trivial | omega | (simp only [I64]; omega)) ?_ | (with_reducible rw [vc_draw_eq]; first | (refine CV.draw (id := 7) sG06c_f9_7 mixed rfl (by kernel_rfl) ?_; delta sG06c_f9_7)) | ((with_reducible first | refine vp (c17 _ _ _) ?_ ?_ | refine dc (c17 _ _ _) ?_ ?_); focus (first | exact ⟨rfl, .inl ⟨by first | rfl | simp only [go_sem, hlt', he, hd, encS, w1, w2, AV.pureL, AV.pure], by first | (simp only [go_sem, hlt', he, hd, encS, w1, w2]; done) | rfl⟩⟩ | exact ⟨rfl, .inr ⟨rfl, by simp only [go_sem, hlt', he, hd, encS, w1, w2]⟩⟩)) | ((with_reducible first | refine dp (c17 _ _ _) ?_ ?_); focus exact ⟨rfl, by first | rfl | simp only [go_sem, hlt', he, hd, encS, w1, w2, AV.pureL, AV.pure], by first | (simp only [go_sem, hlt', he, hd, encS, w1, w2]; done) | rfl⟩) | ((with_reducible first | refine ds (c17 _ _ _) ?_ ?_); focus exact ⟨rfl, rfl⟩) | (simp only [go_sem, hlt', he, hd, encS, w1, w2])))
        exact bf fun h => by
          obtain ⟨x, x1, x2, x3, x4, _⟩ := h j hlt
          rw [he] at x1; cases x1
          exact w2 x3
    · (repeat' (first | ((with_reducible first | refine vcG_split ?_ ?_ | refine vcIf_split ?_ ?_ | refine vcQ_split ?_ ?_ | refine vcDG_split ?_ ?_) <;> intro hb <;> (try rw [hb]) <;> (try simp only [bq, bz, dtrue, dfalse] at hb) <;> (try simp only [within] at hb) <;> try (simp only [go_sem, hlt', he, hd, encS, w1])) | refine And.intro (by first | exact trivial | omega | (simp only [I64]; omega)) ?_ | (with_reducible rw [vc_draw_eq]; first | (refine CV.draw (id := 7) sG06c_f9_7 mixed rfl (by kernel_rfl) ?_; delta sG06c_f9_7)) | ((with_reducible first | refine vp (c17 _ _ _) ?_ ?_ | refine dc (c17 _ _ _) ?_ ?_); focus (first | exact ⟨rfl, .inl ⟨by first | rfl | simp only [go_sem, hlt', he, hd, encS, w1, AV.pureL, AV.pure], by first | (simp only [go_sem, hlt', he, hd, encS, w1]; done) | rfl⟩⟩ | exact ⟨rfl, .inr ⟨rfl, by simp only [go_sem, hlt', he, hd, encS, w1]⟩⟩)) | ((with_reducible first | refine dp (c17 _ _ _) ?_ ?_); focus exact ⟨rfl, by first | rfl | simp only [go_sem, hlt', he, hd, encS, w1, AV.pureL, AV.pure], by first | (simp only [go_sem, hlt', he, hd, encS, w1]; done) | rfl⟩) | ((with_reducible first | refine ds (c17 _ _ _) ?_ ?_); focus exact ⟨rfl, rfl⟩) | (simp only [go_sem, hlt', he, hd, encS, w1])))
      exact bf fun h => by
        obtain ⟨x, x1, x2, x3, x4, _⟩ := h j hlt
        rw [he] at x1; cases x1
        exact w1 x2
  · have hge' : ¬ (j : Int) < L.length := by omega
    (repeat' (first | ((with_reducible first | refine vcG_split ?_ ?_ | refine vcIf_split ?_ ?_ | refine vcQ_split ?_ ?_ | refine vcDG_split ?_ ?_) <;> intro hb <;> (try rw [hb]) <;> (try simp only [bq, bz, dtrue, dfalse] at hb) <;> (try simp only [within] at hb) <;> try (simp only [go_sem, hge'])) | refine And.intro (by first | exact trivial | omega | (simp only [I64]; omega)) ?_ | (with_reducible rw [vc_draw_eq]; first | (refine CV.draw (id := 7) sG06c_f9_7 mixed rfl (by kernel_rfl) ?_; delta sG06c_f9_7)) | (simp only [go_sem, hge'])))
    exact bt fun i hi => hx i (by omega)
end Go.Proofs.YtoadkchhimojlaaGreat

