/- Contracts of functions of the given program, without a condition beyond those that each theorem states; they lead to the given statement. -/
import Derived.Test.YtoadkchhimojlaaGreatG01a
set_option linter.unusedSimpArgs false
set_option linter.unusedVariables false
set_option maxRecDepth 100000
namespace Go.Proofs.YtoadkchhimojlaaGreat
open Go Go.Fl
open Classical
def sG01b_f96_17 : List (Nat × Nat) := [(0, 0), (0, 0), (0, 0), (0, 0), (0, 0), (0, 0), (0, 0), (0, 0), (0, 0), (0, 0), (0, 0), (0, 0)]
def sG01b_f96_18 : List (Nat × Nat) := [(0, 0), (0, 0), (0, 1), (0, 1), (0, 0), (0, 0), (1, 1)]
attribute [go_sem] Nat.reduceAnd Nat.reduceOr Nat.reduceDiv Nat.reduceMod Nat.reducePow Int.reduceDiv Int.reduceMod Int.reduceAdd Int.reduceSub Int.reduceMul Int.reducePow Int.reduceLE Int.reduceLT Int.reduceEq Int.natCast_one Int.natCast_zero Int.cast_ofNat_Int
def hugeG (h : House) : Prop := 40 < h.ms.length ∨ 40 < h.bs.length ∨ 40 < h.ts.length
theorem c35 (h : House) : PC Tryz.prog 35 [hG h] (.bool (decide (hugeG h))) := by
  refine PC.body Tryz.func35 (by kernel_rfl) rfl (by simp [Tryz.f35]) rfl ?_
  simp only [Tryz.f35]
  intro hlen
  simp only [go_sem, List.length_map, and_true, true_and] at hlen
  refine CV.run ?_
  (repeat' (first | ((with_reducible first | refine vcG_split ?_ ?_ | refine vcIf_split ?_ ?_ | refine vcQ_split ?_ ?_ | refine vcDG_split ?_ ?_) <;> intro hb <;> (try rw [hb]) <;> (try simp only [bq, bz, dtrue, dfalse] at hb) <;> (try simp only [within] at hb) <;> try (simp only [go_sem])) | refine And.intro (by first | exact trivial | omega | (simp only [I64]; omega)) ?_ | (simp only [go_sem])))
  all_goals first
    | exact bt (p := hugeG h) (by unfold hugeG; omega)
    | exact bd (by unfold hugeG; omega)
def bunG (h : House) (b : Int) : Bun := (h.bs[b.toNat]?).getD ⟨0, 0, 0⟩
def nxt (h : House) (pc now bef b : Int) : Int := (if 0 ≤ bef ∧ (bunG h b).ed ≠ bef then now + h.ch else now) + (bunG h b).hund * pc
def runM (h : House) (pc : Int) : List Int → Int → Int → List Int → List Int
  | [], _, _, T => T
  | b :: l, now, bef, T => runM h pc l (nxt h pc now bef b) (bunG h b).ed (T.set b.toNat (nxt h pc now bef b))
def timF (h : House) : List Mach → List (List Int) → List Int → List Int
  | m :: ms, l :: p, T => timF h ms p (runM h m.pace l m.ready (-1) T)
  | [], _, T => T
  | _ :: _, [], T => T
def t0 : List Int := [-1, -1, -1, -1, -1]
def tim (h : House) (p : List (List Int)) : List Int := timF h h.ms p t0
theorem runM_len (h : House) (pc : Int) : ∀ (l : List Int) (now bef : Int) (T : List Int), (runM h pc l now bef T).length = T.length
  | [], _, _, _ => rfl
  | b :: l, now, bef, T => by rw [runM, runM_len h pc l]; simp
def encP (l : List Int) : List AV := [lN l]
theorem pureP (l : List (List Int)) : pureE (l.map encP) = True := pureE_map fun _ => rfl
abbrev lP (p : List (List Int)) : AV := .lst false 1 (p.map encP)
attribute [go_sem] pureP
theorem drop_cons' {α : Type} {l : List α} {j : Nat} {a : α} (h : l[j]? = some a) : l.drop j = a :: l.drop (j + 1) := by
  obtain ⟨h1, h2⟩ := List.getElem?_eq_some_iff.1 h
  rw [← h2]; exact List.drop_eq_getElem_cons h1
theorem belowV_I {n : Nat} {x : Int} : belowV n (I x) = true := rfl
attribute [go_sem] belowV_I
theorem put0' {s : List Int} {k : Nat} {v : Int} (hk : k < s.length) : List.take k (s.map I) ++ [.int .i64 v] ++ List.drop (k + 1) (s.map I) = (s.set k v).map I := put0 hk
def okP (h : House) (p : List (List Int)) : Prop := p.length ≤ h.ms.length ∧ ∀ l, l ∈ p → l.length ≤ 5 ∧ ∀ b, b ∈ l → 0 ≤ b ∧ b < h.bs.length
theorem nxt_bd {h : House} (hk : okG h) {m : Mach} (hm : m ∈ h.ms) {now bef b : Int} (h0 : 0 ≤ now) (hb : 0 ≤ b) (hb2 : b < h.bs.length) : 0 ≤ nxt h m.pace now bef b ∧ nxt h m.pace now bef b ≤ now + 90 ∧ 1 ≤ (bunG h b).hund ∧ (bunG h b).hund ≤ 9 ∧ 1 ≤ m.pace ∧ m.pace ≤ 9 ∧ (bunG h b).hund * m.pace ≤ 81 ∧ 0 ≤ (bunG h b).hund * m.pace ∧ 0 ≤ h.ch ∧ h.ch ≤ 9 := by
  obtain ⟨k1, k2, k3, k4, k5, k6, k7, k8⟩ := hk
  obtain ⟨x, hx⟩ := get_of (l := h.bs) (j := b.toNat) (by omega)
  have e : bunG h b = x := by simp [bunG, hx]
  have h1 := (k8 x (List.mem_of_getElem? hx)).2.1
  have h2 := (k6 m hm).2.1
  unfold within at h1 h2 k5
  rw [e]
  have m1 : x.hund * m.pace ≤ 9 * 9 := Int.mul_le_mul h1.2 h2.2 (by omega) (by omega)
  have m2 : 0 ≤ x.hund * m.pace := Int.mul_nonneg (by omega) (by omega)
  unfold nxt
  rw [show bunG h b = x by simp [bunG, hx]]
  split <;> omega
set_option maxHeartbeats 4000000 in
theorem c96 (h : House) (hk : okG h) (p : List (List Int)) (hp : okP h p) : PC Tryz.prog 96 [hG h, lP p] (.agg ((tim h p).map I)) := by
  obtain ⟨k1, k2, k3, k4, k5, k6, k7, k8⟩ := id hk
  obtain ⟨p1, p2⟩ := hp
  refine PC.body Tryz.func96 (by kernel_rfl) rfl (by simp [Tryz.f96]) (pureL_mapI _) ?_
  simp only [Tryz.f96]
  intro hlen
  simp only [go_sem, List.length_map, and_true, true_and] at hlen
  refine CV.run ?_
  (repeat' (first | ((with_reducible first | refine vcG_split ?_ ?_ | refine vcIf_split ?_ ?_ | refine vcQ_split ?_ ?_ | refine vcDG_split ?_ ?_) <;> intro hb <;> (try rw [hb]) <;> (try simp only [bq, bz, dtrue, dfalse] at hb) <;> (try simp only [within] at hb) <;> try (simp only [go_sem])) | refine And.intro (by first | exact trivial | omega | (simp only [I64]; omega)) ?_ | (with_reducible rw [vc_draw_eq]; first | (refine CV.draw (id := 17) sG01b_f96_17 mixed rfl (by kernel_rfl) ?_; delta sG01b_f96_17) | (refine CV.draw (id := 18) sG01b_f96_18 mixed rfl (by kernel_rfl) ?_; delta sG01b_f96_18)) | (simp only [go_sem])))
  refine vc_for (fun j => ⟨[(14, .int .i64 j), (2, .lp 0 0), (4, .lp 1 0), (5, .lp 2 0), (1, lP p)], [.box 26 (cG h) false, .box 142 ([0, 0, 0, 0, 0].map I) false, .box 142 ((t0.take j ++ [0, 0, 0, 0, 0].drop j).map I) false]⟩) 5 (fun _ => True) (by (first | exact wk_same (by (simp only [go_sem, Int.natCast_add, cn, Int.cast_ofNat_Int, List.take_zero, List.drop_zero, List.nil_append, List.map_cons, List.map_nil, I])) | (refine wk_drop ?_ ?_ ?_ ?_ ?_ <;> (simp only [go_sem, Int.natCast_add, cn, Int.cast_ofNat_Int, List.take_zero, List.drop_zero, List.nil_append, List.map_cons, List.map_nil, I])))) trivial ?_
  intro j hj _
  rcases Nat.lt_or_ge j 5 with hlt | hge
  · have hc : j = 0 ∨ j = 1 ∨ j = 2 ∨ j = 3 ∨ j = 4 := by omega
    rcases hc with rfl | rfl | rfl | rfl | rfl
    all_goals
      (repeat' (first | ((with_reducible first | refine vcG_split ?_ ?_ | refine vcIf_split ?_ ?_ | refine vcQ_split ?_ ?_ | refine vcDG_split ?_ ?_) <;> intro hb <;> (try rw [hb]) <;> (try simp only [bq, bz, dtrue, dfalse] at hb) <;> (try simp only [within] at hb) <;> try (simp only [go_sem, t0, I, List.take_succ_cons, List.take_zero, List.drop_succ_cons, List.drop_zero, List.cons_append, List.nil_append, List.map_cons, List.map_nil])) | refine And.intro (by first | exact trivial | omega | (simp only [I64]; omega)) ?_ | (with_reducible rw [vc_draw_eq]; first | (refine CV.draw (id := 17) sG01b_f96_17 mixed rfl (by kernel_rfl) ?_; delta sG01b_f96_17) | (refine CV.draw (id := 18) sG01b_f96_18 mixed rfl (by kernel_rfl) ?_; delta sG01b_f96_18)) | (simp only [go_sem, t0, I, List.take_succ_cons, List.take_zero, List.drop_succ_cons, List.drop_zero, List.cons_append, List.nil_append, List.map_cons, List.map_nil])))
      (first | exact wk_same (by (simp only [go_sem, Int.natCast_add, cn, Int.cast_ofNat_Int, t0, I, List.take_succ_cons, List.take_zero, List.drop_succ_cons, List.drop_zero, List.cons_append, List.nil_append, List.map_cons, List.map_nil])) | (refine wk_drop ?_ ?_ ?_ ?_ ?_ <;> (simp only [go_sem, Int.natCast_add, cn, Int.cast_ofNat_Int, t0, I, List.take_succ_cons, List.take_zero, List.drop_succ_cons, List.drop_zero, List.cons_append, List.nil_append, List.map_cons, List.map_nil])))
  have : j = 5 := by omega
  subst this
  (repeat' (first | ((with_reducible first | refine vcG_split ?_ ?_ | refine vcIf_split ?_ ?_ | refine vcQ_split ?_ ?_ | refine vcDG_split ?_ ?_) <;> intro hb <;> (try rw [hb]) <;> (try simp only [bq, bz, dtrue, dfalse] at hb) <;> (try simp only [within] at hb) <;> try (simp only [go_sem])) | refine And.intro (by first | exact trivial | omega | (simp only [I64]; omega)) ?_ | (with_reducible rw [vc_draw_eq]; first | (refine CV.draw (id := 17) sG01b_f96_17 mixed rfl (by kernel_rfl) ?_; delta sG01b_f96_17) | (refine CV.draw (id := 18) sG01b_f96_18 mixed rfl (by kernel_rfl) ?_; delta sG01b_f96_18)) | (simp only [go_sem])))
  refine vc_fx (fun j (T : List Int) => ⟨[(22, .int .i64 j), (21, .int .i64 p.length), (20, lP p), (2, .lp 0 0), (4, .lp 1 0), (5, .lp 2 0)], [.box 26 (cG h) false, .box 142 ([0, 0, 0, 0, 0].map I) false, .box 142 (T.map I) false]⟩) p.length (fun j T => T.length = 5 ∧ timF h (h.ms.drop j) (p.drop j) T = tim h p) t0 (.base (by (first | exact wk_same (by (simp only [go_sem, Int.natCast_add, cn, Int.cast_ofNat_Int, t0, I, List.take_succ_cons, List.take_zero, List.drop_succ_cons, List.drop_zero, List.cons_append, List.nil_append, List.map_cons, List.map_nil, List.append_nil, List.drop_nil])) | (refine wk_drop ?_ ?_ ?_ ?_ ?_ <;> (simp only [go_sem, Int.natCast_add, cn, Int.cast_ofNat_Int, t0, I, List.take_succ_cons, List.take_zero, List.drop_succ_cons, List.drop_zero, List.cons_append, List.nil_append, List.map_cons, List.map_nil, List.append_nil, List.drop_nil]))))) ⟨rfl, rfl⟩ ?_
  intro j T hj ⟨hT, hx⟩
  rcases Nat.lt_or_ge j p.length with hlt | hge
  · obtain ⟨l, hl⟩ := get_of hlt
    obtain ⟨m, hm⟩ := get_of (l := h.ms) (j := j) (by omega)
    have hlt' : (j : Int) < p.length := by omega
    have hltm : (j : Int) < h.ms.length := by omega
    have hmm := List.mem_of_getElem? hm
    have hmk := k6 m hmm
    obtain ⟨q1, q2⟩ := p2 l (List.mem_of_getElem? hl)
    rw [drop_cons' hl, drop_cons' hm, timF] at hx
    have hr0 := hmk.1
    unfold within at hr0
    (repeat' (first | ((with_reducible first | refine vcG_split ?_ ?_ | refine vcIf_split ?_ ?_ | refine vcQ_split ?_ ?_ | refine vcDG_split ?_ ?_) <;> intro hb <;> (try rw [hb]) <;> (try simp only [bq, bz, dtrue, dfalse] at hb) <;> (try simp only [within] at hb) <;> try (simp only [go_sem, hlt', hltm, hl, hm, encP, encM])) | refine And.intro (by first | exact trivial | omega | (simp only [I64]; omega)) ?_ | (with_reducible rw [vc_draw_eq]; first | (refine CV.draw (id := 17) sG01b_f96_17 mixed rfl (by kernel_rfl) ?_; delta sG01b_f96_17) | (refine CV.draw (id := 18) sG01b_f96_18 mixed rfl (by kernel_rfl) ?_; delta sG01b_f96_18)) | (simp only [go_sem, hlt', hltm, hl, hm, encP, encM])))
    refine vc_fx (fun i (x : Int × Int × List Int) => ⟨[(35, .int .i64 i), (34, .int .i64 l.length), (33, lN l), (9, .int .i64 x.1), (10, .int .i64 x.2.1), (7, .int .i64 j), (22, .int .i64 j), (21, .int .i64 p.length), (20, lP p), (2, .lp 0 0), (4, .lp 1 0), (5, .lp 2 0)], [.box 26 (cG h) false, .box 142 ([0, 0, 0, 0, 0].map I) false, .box 142 (x.2.2.map I) false]⟩) l.length (fun i x => x.2.2.length = 5 ∧ 0 ≤ x.1 ∧ x.1 ≤ 99 + 90 * i ∧ runM h m.pace (l.drop i) x.1 x.2.1 x.2.2 = runM h m.pace l m.ready (-1) T) (m.ready, -1, T) (.base (by (first | exact wk_same (by (simp only [go_sem, Int.natCast_add, cn, Int.cast_ofNat_Int])) | (refine wk_drop ?_ ?_ ?_ ?_ ?_ <;> (simp only [go_sem, Int.natCast_add, cn, Int.cast_ofNat_Int]))))) ⟨hT, by omega, by omega, rfl⟩ ?_
    intro i x hi ⟨x1, x2, x3, x4⟩
    obtain ⟨now, bef, U⟩ := x
    simp only at x1 x2 x3 x4
    rcases Nat.lt_or_ge i l.length with hlt2 | hge2
    · obtain ⟨b, hb0⟩ := get_of hlt2
      have hlt2' : (i : Int) < l.length := by omega
      obtain ⟨y1, y2⟩ := q2 b (List.mem_of_getElem? hb0)
      obtain ⟨k, rfl⟩ : ∃ k : Nat, b = k := ⟨b.toNat, by omega⟩
      obtain ⟨y, hy⟩ := get_of (l := h.bs) (j := k) (by omega)
      have hyk : (k : Int) < h.bs.length := by omega
      have hk5 : (k : Int) < 5 := by omega
      have hkU : k < U.length := by omega
      have ey : bunG h k = y := by simp [bunG, hy]
      obtain ⟨z1, z2, z3, z4, z5, z6, z7, z8, z9, z10⟩ := nxt_bd hk hmm (now := now) (bef := bef) (b := k) x2 y1 y2
      rw [drop_cons' hb0, runM] at x4
      rw [ey] at z3 z4 z7 z8 x4
      have en : nxt h m.pace now bef k = (if 0 ≤ bef ∧ y.ed ≠ bef then now + h.ch else now) + y.hund * m.pace := by unfold nxt; rw [ey]
      rw [en] at z1 z2 x4
      simp only [Int.toNat_natCast] at x4
      (repeat' (first | ((with_reducible first | refine vcG_split ?_ ?_ | refine vcIf_split ?_ ?_ | refine vcQ_split ?_ ?_ | refine vcDG_split ?_ ?_) <;> intro hb <;> (try rw [hb]) <;> (try simp only [bq, bz, dtrue, dfalse] at hb) <;> (try simp only [within] at hb) <;> try (simp only [go_sem, hlt2', hb0, hyk, hy, hltm, hm, hk5, hkU, x1, put0', encN, encB, encM, List.length_map, Nat.mul_one])) | refine And.intro (by first | exact trivial | omega | (simp only [I64]; omega)) ?_ | (with_reducible rw [vc_draw_eq]; first | (refine CV.draw (id := 17) sG01b_f96_17 mixed rfl (by kernel_rfl) ?_; delta sG01b_f96_17) | (refine CV.draw (id := 18) sG01b_f96_18 mixed rfl (by kernel_rfl) ?_; delta sG01b_f96_18)) | (simp only [go_sem, hlt2', hb0, hyk, hy, hltm, hm, hk5, hkU, x1, put0', encN, encB, encM, List.length_map, Nat.mul_one])))
      all_goals first
        | (rw [if_pos (by omega)] at z1 z2 x4; exact ⟨(now + h.ch + y.hund * m.pace, y.ed, U.set k (now + h.ch + y.hund * m.pace)), hlt2, .base (by (first | exact wk_same (by (simp only [go_sem, Int.natCast_add, cn, Int.cast_ofNat_Int, put0', hkU])) | (refine wk_drop ?_ ?_ ?_ ?_ ?_ <;> (simp only [go_sem, Int.natCast_add, cn, Int.cast_ofNat_Int, put0', hkU])))), by simpa using x1, z1, by simp only; omega, x4⟩)
        | (rw [if_neg (by omega)] at z1 z2 x4; exact ⟨(now + y.hund * m.pace, y.ed, U.set k (now + y.hund * m.pace)), hlt2, .base (by (first | exact wk_same (by (simp only [go_sem, Int.natCast_add, cn, Int.cast_ofNat_Int, put0', hkU])) | (refine wk_drop ?_ ?_ ?_ ?_ ?_ <;> (simp only [go_sem, Int.natCast_add, cn, Int.cast_ofNat_Int, put0', hkU])))), by simpa using x1, z1, by simp only; omega, x4⟩)
        | trace_state
    · have hge2' : ¬ (i : Int) < l.length := by omega
      have : i = l.length := by omega
      subst this
      rw [List.drop_length, runM] at x4
      (repeat' (first | ((with_reducible first | refine vcG_split ?_ ?_ | refine vcIf_split ?_ ?_ | refine vcQ_split ?_ ?_ | refine vcDG_split ?_ ?_) <;> intro hb <;> (try rw [hb]) <;> (try simp only [bq, bz, dtrue, dfalse] at hb) <;> (try simp only [within] at hb) <;> try (simp only [go_sem, hge2'])) | refine And.intro (by first | exact trivial | omega | (simp only [I64]; omega)) ?_ | (with_reducible rw [vc_draw_eq]; first | (refine CV.draw (id := 17) sG01b_f96_17 mixed rfl (by kernel_rfl) ?_; delta sG01b_f96_17) | (refine CV.draw (id := 18) sG01b_f96_18 mixed rfl (by kernel_rfl) ?_; delta sG01b_f96_18)) | (simp only [go_sem, hge2'])))
      exact ⟨U, hlt, .base (by (first | exact wk_same (by (simp only [go_sem, Int.natCast_add, cn, Int.cast_ofNat_Int])) | (refine wk_drop ?_ ?_ ?_ ?_ ?_ <;> (simp only [go_sem, Int.natCast_add, cn, Int.cast_ofNat_Int])))), x1, by rw [x4]; exact hx⟩
  · have hge' : ¬ (j : Int) < p.length := by omega
    have : j = p.length := by omega
    subst this
    have htk : List.take 5 (List.map I T) = List.map I T := List.take_of_length_le (by simp [hT])
    rw [List.drop_length] at hx
    have hx2 : T = tim h p := by
      rw [← hx]
      cases h.ms.drop p.length <;> rfl
    subst hx2
    (repeat' (first | ((with_reducible first | refine vcG_split ?_ ?_ | refine vcIf_split ?_ ?_ | refine vcQ_split ?_ ?_ | refine vcDG_split ?_ ?_) <;> intro hb <;> (try rw [hb]) <;> (try simp only [bq, bz, dtrue, dfalse] at hb) <;> (try simp only [within] at hb) <;> try (simp only [go_sem, hge', hT, htk, allOne_mapI, frzL_mapI, List.length_map, List.drop_succ_cons, List.drop_zero, List.append_nil])) | refine And.intro (by first | exact trivial | omega | (simp only [I64]; omega)) ?_ | (with_reducible rw [vc_draw_eq]; first | (refine CV.draw (id := 17) sG01b_f96_17 mixed rfl (by kernel_rfl) ?_; delta sG01b_f96_17) | (refine CV.draw (id := 18) sG01b_f96_18 mixed rfl (by kernel_rfl) ?_; delta sG01b_f96_18)) | (simp only [go_sem, hge', hT, htk, allOne_mapI, frzL_mapI, List.length_map, List.drop_succ_cons, List.drop_zero, List.append_nil])))
end Go.Proofs.YtoadkchhimojlaaGreat

