/- Contracts of functions of the given program, without a condition beyond those that each theorem states; they lead to the given statement. -/
import Derived.Test.YtoadkchhimojlaaK03a
set_option linter.unusedSimpArgs false
set_option linter.unusedVariables false
set_option maxRecDepth 100000
namespace Go.Proofs.Ytoadkchhimojlaa
open Go Go.Fl
open Classical
def sK03b_f10_10 : List (Nat × Nat) := [(0, 0), (0, 0), (0, 0), (0, 0), (0, 0), (0, 0), (0, 0), (0, 0), (0, 0), (0, 0), (0, 0), (0, 0), (0, 0), (0, 0)]
theorem set_map {l : List Int} {j : Nat} {x : Int} : (l.map encN).set j [.int .i64 x] = (l.set j x).map encN := by rw [List.map_set]; rfl
def wntTo (h : House) (p : Int) : Nat → Int
  | 0 => 0
  | i + 1 => wntTo h p i + (if (bunG h i).ed = p then (bunG h i).hund else 0)
def wnt (h : House) (p : Int) : Int := wntTo h p h.bs.length
def ordS (s : W2.Shop) (h : House) : W2.Shop := ⟨s.ms, s.ws, (List.range s.wt.length).map fun (p : Nat) => wnt h p, s.fr⟩
theorem wntTo_bd {h : House} (hk : okG h) (p : Int) : ∀ i : Nat, i ≤ h.bs.length → 0 ≤ wntTo h p i ∧ wntTo h p i ≤ 9 * i
  | 0, _ => by simp [wntTo]
  | i + 1, hi => by
    have ih := wntTo_bd hk p i (by omega)
    obtain ⟨x, hx⟩ := get_of (l := h.bs) (j := i) (by omega)
    have e : bunG h i = x := by simp [bunG, hx]
    have hh := (hk.2.2.2.2.2.2.2 x (List.mem_of_getElem? hx)).2.1
    unfold within at hh
    rw [wntTo, e]
    split <;> omega
set_option maxHeartbeats 2000000 in
theorem c10 (s : W2.Shop) (h : House) (hs : ¬ W2.huge s) (hk : okG h) : PC Try.prog 10 [W2.hS s, hG h] (W2.hS (ordS s h)) := by
  have h31 := W2.h31 s hs
  have nh := W2.not_huge hs
  refine PC.body Try.func10 (by kernel_rfl) rfl (by simp [Try.f10]) rfl ?_
  simp only [Try.f10]
  intro hlen
  simp only [go_sem, List.length_map, and_true, true_and] at hlen
  refine CV.run ?_
  (repeat' (first | ((with_reducible first | refine vcG_split ?_ ?_ | refine vcIf_split ?_ ?_ | refine vcQ_split ?_ ?_ | refine vcDG_split ?_ ?_) <;> intro hb <;> (try rw [hb]) <;> (try simp only [bq, bz, dtrue, dfalse] at hb) <;> (try simp only [within] at hb) <;> try (simp only [go_sem])) | refine And.intro (by first | exact trivial | omega | (simp only [I64]; omega)) ?_ | (with_reducible rw [vc_draw_eq]; first | (refine CV.draw (id := 10) sK03b_f10_10 mixed rfl (by kernel_rfl) ?_; delta sK03b_f10_10)) | (simp only [go_sem])))
  refine vcP_new h31 rfl ?_
  (repeat' (first | ((with_reducible first | refine vcG_split ?_ ?_ | refine vcIf_split ?_ ?_ | refine vcQ_split ?_ ?_ | refine vcDG_split ?_ ?_) <;> intro hb <;> (try rw [hb]) <;> (try simp only [bq, bz, dtrue, dfalse] at hb) <;> (try simp only [within] at hb) <;> try (simp only [go_sem, List.map_cons, List.map_nil, List.cons_append, List.nil_append])) | refine And.intro (by first | exact trivial | omega | (simp only [I64]; omega)) ?_ | (with_reducible rw [vc_draw_eq]; first | (refine CV.draw (id := 10) sK03b_f10_10 mixed rfl (by kernel_rfl) ?_; delta sK03b_f10_10)) | (simp only [go_sem, List.map_cons, List.map_nil, List.cons_append, List.nil_append])))
  refine vc_fx (fun p (l : List Int) => ⟨[(6, .int .i64 p), (5, .lp 9 0), (3, .lp 1 0), (4, .lp 2 0)], [.box 26 (W2.cS s) false, .box 30 (cG h) false, .box 26 [.nilS, .nilS, .nilS, .int .i64 0] false, .box 26 [.lst false 3 (s.ms.map W2.encD), .lst false 1 (s.ws.map W2.encW), lN s.wt, .int .i64 s.fr] false, .box 26 [.row 5 s.ms.length, .row 8 s.ws.length, .row 6 s.wt.length, .int .i64 s.fr] false, .row 71 3 (s.ms.map W2.encD) false, .row 3 1 (l.map encN) false, .box 26 [.row 5 s.ms.length, .row 8 s.ws.length, .row 6 s.wt.length, .int .i64 s.fr] false, .row 24 1 (s.ws.map W2.encW) false, .box 26 [.row 5 s.ms.length, .row 8 s.ws.length, .row 6 s.wt.length, .int .i64 s.fr] false]⟩) s.wt.length (fun p l => l.length = s.wt.length ∧ ∀ i : Nat, i < p → gv l i = wnt h i) s.wt (.base (by (first | exact wk_same (by (simp only [go_sem, Int.natCast_add, cn, Int.cast_ofNat_Int])) | (refine wk_drop ?_ ?_ ?_ ?_ ?_ <;> (simp only [go_sem, Int.natCast_add, cn, Int.cast_ofNat_Int]))))) ⟨rfl, fun i hi => by omega⟩ ?_
  intro p l hp ⟨x1, x2⟩
  rcases Nat.lt_or_ge p s.wt.length with hlt | hge
  · have hlt' : (p : Int) < s.wt.length := by omega
    have hpl : p < l.length := by omega
    obtain ⟨v0, hv0⟩ := get_of hpl
    have hb5 := hk.2.2.2.1
    have I1 : I64 ((p : Int) + 1) = True := eq_true (by unfold I64; omega)
    (repeat' (first | ((with_reducible first | refine vcG_split ?_ ?_ | refine vcIf_split ?_ ?_ | refine vcQ_split ?_ ?_ | refine vcDG_split ?_ ?_) <;> intro hb <;> (try rw [hb]) <;> (try simp only [bq, bz, dtrue, dfalse] at hb) <;> (try simp only [within] at hb) <;> try (simp only [go_sem, hlt', x1, hv0, encN, set_map, List.length_map, List.length_set])) | refine And.intro (by first | exact trivial | omega | (simp only [I64]; omega)) ?_ | (with_reducible rw [vc_draw_eq]; first | (refine CV.draw (id := 10) sK03b_f10_10 mixed rfl (by kernel_rfl) ?_; delta sK03b_f10_10)) | (simp only [go_sem, hlt', x1, hv0, encN, set_map, List.length_map, List.length_set])))
    refine vc_fx (fun j (u : List Int) => ⟨[(7, .int .i64 j), (6, .int .i64 p), (5, .lp 9 0), (3, .lp 1 0), (4, .lp 2 0)], [.box 26 (W2.cS s) false, .box 30 (cG h) false, .box 26 [.nilS, .nilS, .nilS, .int .i64 0] false, .box 26 [.lst false 3 (s.ms.map W2.encD), .lst false 1 (s.ws.map W2.encW), lN s.wt, .int .i64 s.fr] false, .box 26 [.row 5 s.ms.length, .row 8 s.ws.length, .row 6 s.wt.length, .int .i64 s.fr] false, .row 71 3 (s.ms.map W2.encD) false, .row 3 1 (u.map encN) false, .box 26 [.row 5 s.ms.length, .row 8 s.ws.length, .row 6 s.wt.length, .int .i64 s.fr] false, .row 24 1 (s.ws.map W2.encW) false, .box 26 [.row 5 s.ms.length, .row 8 s.ws.length, .row 6 s.wt.length, .int .i64 s.fr] false]⟩) h.bs.length (fun j u => u.length = s.wt.length ∧ (∀ i : Nat, i < p → gv u i = wnt h i) ∧ gv u p = wntTo h p j) (l.set p 0) (.base (by (first | exact wk_same (by (simp only [go_sem, Int.natCast_add, cn, Int.cast_ofNat_Int])) | (refine wk_drop ?_ ?_ ?_ ?_ ?_ <;> (simp only [go_sem, Int.natCast_add, cn, Int.cast_ofNat_Int]))))) ⟨by simpa using x1, fun i hi => by rw [gv_set hpl, if_neg (by omega)]; exact x2 i hi, by rw [gv_set hpl, if_pos rfl]; rfl⟩ ?_
    intro j u hj ⟨y1, y2, y3⟩
    rcases Nat.lt_or_ge j h.bs.length with hjl | hjg
    · have hjl' : (j : Int) < h.bs.length := by omega
      obtain ⟨x, hx⟩ := get_of hjl
      have ex : bunG h j = x := by simp [bunG, hx]
      have hpu : p < u.length := by omega
      obtain ⟨v, hv⟩ := get_of hpu
      have ev := gv_nat hv
      have hb1 := wntTo_bd hk p j (by omega)
      have hb2 := wntTo_bd hk p (j + 1) (by omega)
      have I2 : I64 ((j : Int) + 1) = True := eq_true (by unfold I64; omega)
      by_cases he : x.ed = (p : Int)
      · have e2 : wntTo h p (j + 1) = v + x.hund := by rw [wntTo, ex, if_pos he, ← y3, ev]
        have I3 : I64 (v + x.hund) = True := eq_true (by rw [← e2]; unfold I64; omega)
        (repeat' (first | ((with_reducible first | refine vcG_split ?_ ?_ | refine vcIf_split ?_ ?_ | refine vcQ_split ?_ ?_ | refine vcDG_split ?_ ?_) <;> intro hb <;> (try rw [hb]) <;> (try simp only [bq, bz, dtrue, dfalse] at hb) <;> (try simp only [within] at hb) <;> try (simp only [go_sem, hlt', hjl', hx, hv, he, encB, encN, I2, I3, y1, set_map, List.length_map, List.length_set])) | refine And.intro (by first | exact trivial | omega | (simp only [I64]; omega)) ?_ | (with_reducible rw [vc_draw_eq]; first | (refine CV.draw (id := 10) sK03b_f10_10 mixed rfl (by kernel_rfl) ?_; delta sK03b_f10_10)) | (simp only [go_sem, hlt', hjl', hx, hv, he, encB, encN, I2, I3, y1, set_map, List.length_map, List.length_set])))
        refine ⟨u.set p (v + x.hund), hjl, .base (by (first | exact wk_same (by (simp only [go_sem, Int.natCast_add, cn, Int.cast_ofNat_Int])) | (refine wk_drop ?_ ?_ ?_ ?_ ?_ <;> (simp only [go_sem, Int.natCast_add, cn, Int.cast_ofNat_Int])))), by simpa using y1, fun i hi => by rw [gv_set hpu, if_neg (by omega)]; exact y2 i hi, by rw [gv_set hpu, if_pos rfl, e2]⟩
      · have e2 : wntTo h p (j + 1) = v := by rw [wntTo, ex, if_neg he, ← y3, ev, Int.add_zero]
        (repeat' (first | ((with_reducible first | refine vcG_split ?_ ?_ | refine vcIf_split ?_ ?_ | refine vcQ_split ?_ ?_ | refine vcDG_split ?_ ?_) <;> intro hb <;> (try rw [hb]) <;> (try simp only [bq, bz, dtrue, dfalse] at hb) <;> (try simp only [within] at hb) <;> try (simp only [go_sem, hlt', hjl', hx, he, encB, encN, I2, y1, List.length_map])) | refine And.intro (by first | exact trivial | omega | (simp only [I64]; omega)) ?_ | (with_reducible rw [vc_draw_eq]; first | (refine CV.draw (id := 10) sK03b_f10_10 mixed rfl (by kernel_rfl) ?_; delta sK03b_f10_10)) | (simp only [go_sem, hlt', hjl', hx, he, encB, encN, I2, y1, List.length_map])))
        exact ⟨u, hjl, .base (by (first | exact wk_same (by (simp only [go_sem, Int.natCast_add, cn, Int.cast_ofNat_Int])) | (refine wk_drop ?_ ?_ ?_ ?_ ?_ <;> (simp only [go_sem, Int.natCast_add, cn, Int.cast_ofNat_Int])))), y1, y2, by rw [ev, e2]⟩
    · have hjg' : ¬ (j : Int) < h.bs.length := by omega
      have : j = h.bs.length := by omega
      subst this
      (repeat' (first | ((with_reducible first | refine vcG_split ?_ ?_ | refine vcIf_split ?_ ?_ | refine vcQ_split ?_ ?_ | refine vcDG_split ?_ ?_) <;> intro hb <;> (try rw [hb]) <;> (try simp only [bq, bz, dtrue, dfalse] at hb) <;> (try simp only [within] at hb) <;> try (simp only [go_sem, hjg', I1])) | refine And.intro (by first | exact trivial | omega | (simp only [I64]; omega)) ?_ | (with_reducible rw [vc_draw_eq]; first | (refine CV.draw (id := 10) sK03b_f10_10 mixed rfl (by kernel_rfl) ?_; delta sK03b_f10_10)) | (simp only [go_sem, hjg', I1])))
      refine ⟨u, hlt, .base (by (first | exact wk_same (by (simp only [go_sem, Int.natCast_add, cn, Int.cast_ofNat_Int])) | (refine wk_drop ?_ ?_ ?_ ?_ ?_ <;> (simp only [go_sem, Int.natCast_add, cn, Int.cast_ofNat_Int])))), y1, fun i hi => ?_⟩
      rcases Nat.lt_or_ge i p with hip | hip
      · exact y2 i hip
      · have : i = p := by omega
        subst this; exact y3
  · have hge' : ¬ (p : Int) < s.wt.length := by omega
    have : p = s.wt.length := by omega
    subst this
    have el : l = (List.range s.wt.length).map fun (p : Nat) => wnt h p := by
      apply List.ext_getElem?
      intro i
      rcases Nat.lt_or_ge i s.wt.length with hi | hi
      · obtain ⟨v, hv⟩ := get_of (l := l) (j := i) (by omega)
        rw [hv, List.getElem?_map, rng_get hi, ← gv_nat hv, x2 i hi]; rfl
      · rw [List.getElem?_eq_none (by omega), List.getElem?_eq_none (by simpa using hi)]
    subst el
    have e3 : (ordS s h).wt = (List.range s.wt.length).map fun (p : Nat) => wnt h p := rfl
    simp only [W2.hS, W2.cS, ordS]
    (repeat' (first | ((with_reducible first | refine vcG_split ?_ ?_ | refine vcIf_split ?_ ?_ | refine vcQ_split ?_ ?_ | refine vcDG_split ?_ ?_) <;> intro hb <;> (try rw [hb]) <;> (try simp only [bq, bz, dtrue, dfalse] at hb) <;> (try simp only [within] at hb) <;> try (simp only [go_sem, hge', List.length_map, List.length_range])) | refine And.intro (by first | exact trivial | omega | (simp only [I64]; omega)) ?_ | (with_reducible rw [vc_draw_eq]; first | (refine CV.draw (id := 10) sK03b_f10_10 mixed rfl (by kernel_rfl) ?_; delta sK03b_f10_10)) | (simp only [go_sem, hge', List.length_map, List.length_range])))
    all_goals trace_state
end Go.Proofs.Ytoadkchhimojlaa

