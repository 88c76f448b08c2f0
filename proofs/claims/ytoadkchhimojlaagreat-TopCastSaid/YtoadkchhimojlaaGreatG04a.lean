/- Contracts of functions of the given program, without a condition beyond those that each theorem states; they lead to the given statement. -/
import Derived.Test.YtoadkchhimojlaaGreatG03i
import Derived.Test.YtoadkchhimojlaaGreatFlC
set_option linter.unusedSimpArgs false
set_option linter.unusedVariables false
set_option maxRecDepth 100000
namespace Go.Proofs.YtoadkchhimojlaaGreat
open Go Go.Fl
open Classical
def sG04a_f18_4 : List (Nat × Nat) := [(0, 0), (0, 0), (0, 0), (0, 0), (0, 0), (0, 0), (0, 0), (0, 0), (0, 0), (0, 0), (0, 0), (0, 0), (0, 0), (0, 0), (0, 0), (0, 0), (0, 0), (0, 0), (0, 0), (0, 0), (0, 0), (0, 0), (0, 0), (0, 0)]
def sG04a_f5_16 : List (Nat × Nat) := [(0, 0), (0, 0), (0, 0), (0, 0), (0, 0), (0, 0), (0, 0), (0, 0), (0, 0), (0, 0), (0, 0)]
structure Hall where
  hs : House
  bo : List Int
  es : List (List Int)
abbrev cH (a : Hall) : List AV := [.lst false 3 (a.hs.ms.map encM), .lst false 3 (a.hs.bs.map encB), lN a.hs.ts, .int .i64 a.hs.ch, lN a.bo, lP a.es]
abbrev hH (a : Hall) : AV := .agg (cH a)
theorem e900 : ((90 : Int) = 0) = False := by simp
attribute [go_sem] e900
theorem c17 (n lo hi : Int) : PC Tryz.prog 17 [.int .i64 n, .int .i64 lo, .int .i64 hi] (.bool (decide (within n lo hi))) := by
  refine PC.body Tryz.func17 (by kernel_rfl) rfl (by simp [Tryz.f17]) rfl ?_
  simp only [Tryz.f17]
  intro hlen
  simp only [go_sem, List.length_map, and_true, true_and] at hlen
  refine CV.run ?_
  (repeat' (first | ((with_reducible first | refine vcG_split ?_ ?_ | refine vcIf_split ?_ ?_ | refine vcQ_split ?_ ?_ | refine vcDG_split ?_ ?_) <;> intro hb <;> (try rw [hb]) <;> (try simp only [bq, bz, dtrue, dfalse] at hb) <;> (try simp only [within] at hb) <;> try (simp only [go_sem])) | refine And.intro (by first | exact trivial | omega | (simp only [I64]; omega)) ?_ | ((with_reducible first | refine vp (c39 _ _ _) ?_ ?_); focus (first | exact ⟨rfl, .inl ⟨by first | rfl | simp only [go_sem, AV.pureL, AV.pure], by first | (simp only [go_sem]; done) | rfl⟩⟩ | exact ⟨rfl, .inr ⟨rfl, by simp only [go_sem]⟩⟩)) | (simp only [go_sem])))
theorem c60 (n lo hi : Int) : PC Tryz.prog 60 [.int .i64 n, .int .i64 lo, .int .i64 hi] (.bool (decide (within n lo hi))) := by
  refine PC.body Tryz.func60 (by kernel_rfl) rfl (by simp [Tryz.f60]) rfl ?_
  simp only [Tryz.f60]
  intro hlen
  simp only [go_sem, List.length_map, and_true, true_and] at hlen
  refine CV.run ?_
  (repeat' (first | ((with_reducible first | refine vcG_split ?_ ?_ | refine vcIf_split ?_ ?_ | refine vcQ_split ?_ ?_ | refine vcDG_split ?_ ?_) <;> intro hb <;> (try rw [hb]) <;> (try simp only [bq, bz, dtrue, dfalse] at hb) <;> (try simp only [within] at hb) <;> try (simp only [go_sem])) | refine And.intro (by first | exact trivial | omega | (simp only [I64]; omega)) ?_ | (simp only [go_sem])))
  · simp [within, hb]
  · exact bf fun h => absurd h.1 (by omega)
theorem c18 (l : List Int) (lo hi : Int) : PC Tryz.prog 18 [lN l, .int .i64 lo, .int .i64 hi] (.bool (decide (rising l lo hi))) := by
  refine PC.body Tryz.func18 (by kernel_rfl) rfl (by simp [Tryz.f18]) rfl ?_
  simp only [Tryz.f18]
  intro hlen
  simp only [go_sem, List.length_map, and_true, true_and] at hlen
  refine CV.run ?_
  (simp only [go_sem])
  refine vc_for (fun j => ⟨[(7, .int .i64 j), (6, .bool false), (0, lN l), (1, .int .i64 lo), (2, .int .i64 hi)], []⟩) l.length (fun j => ∀ i, i < j → risingAt l lo hi i) (by (first | exact wk_same (by (simp only [go_sem, Int.natCast_add, cn, Int.cast_ofNat_Int])) | (refine wk_drop ?_ ?_ ?_ ?_ ?_ <;> (simp only [go_sem, Int.natCast_add, cn, Int.cast_ofNat_Int])))) (fun i h => by omega) ?_
  intro j hj hx
  rcases Nat.lt_or_ge j l.length with hlt | hge
  · obtain ⟨a, ha⟩ := get_of hlt
    obtain ⟨b, hbb⟩ := get_of (l := l) (j := ((j : Int) - 1).toNat) (by omega)
    have hjb : 0 < j → l[j-1]? = some b := fun h => by rw [← hbb]; congr 1; omega
    have hlt' : (j : Int) < l.length := by omega
    (repeat' (first | ((with_reducible first | refine vcG_split ?_ ?_ | refine vcIf_split ?_ ?_ | refine vcQ_split ?_ ?_ | refine vcDG_split ?_ ?_) <;> intro hb <;> (try rw [hb]) <;> (try simp only [bq, bz, dtrue, dfalse] at hb) <;> (try simp only [within] at hb) <;> try (simp only [go_sem, hlt', ha, hbb, encN])) | refine And.intro (by first | exact trivial | omega | (simp only [I64]; omega)) ?_ | (with_reducible rw [vc_draw_eq]; first | (refine CV.draw (id := 4) sG04a_f18_4 mixed rfl (by kernel_rfl) ?_; delta sG04a_f18_4)) | ((with_reducible first | refine vp (c39 _ _ _) ?_ ?_ | refine dc (c39 _ _ _) ?_ ?_); focus (first | exact ⟨rfl, .inl ⟨by first | rfl | simp only [go_sem, hlt', ha, hbb, encN, AV.pureL, AV.pure], by first | (simp only [go_sem, hlt', ha, hbb, encN]; done) | rfl⟩⟩ | exact ⟨rfl, .inr ⟨rfl, by simp only [go_sem, hlt', ha, hbb, encN]⟩⟩)) | ((with_reducible first | refine dp (c39 _ _ _) ?_ ?_); focus exact ⟨rfl, by first | rfl | simp only [go_sem, hlt', ha, hbb, encN, AV.pureL, AV.pure], by first | (simp only [go_sem, hlt', ha, hbb, encN]; done) | rfl⟩) | ((with_reducible first | refine ds (c39 _ _ _) ?_ ?_); focus exact ⟨rfl, rfl⟩) | (simp only [go_sem, hlt', ha, hbb, encN])))
    · exact bf fun h => hb (by obtain ⟨a', h1, h2, _⟩ := h j hlt; rw [ha] at h1; cases h1; exact h2)
    · exact bf fun h => by
        obtain ⟨a', h1, h2, h3⟩ := h j hlt; rw [ha] at h1; cases h1
        obtain ⟨b', h4, h5⟩ := h3 (by omega)
        rw [hjb (by omega)] at h4; cases h4
        omega
    all_goals
      refine ⟨by (first | exact wk_same (by (simp only [go_sem, Int.natCast_add, cn, Int.cast_ofNat_Int])) | (refine wk_drop ?_ ?_ ?_ ?_ ?_ <;> (simp only [go_sem, Int.natCast_add, cn, Int.cast_ofNat_Int]))), fun i hi => ?_⟩
      rcases Nat.lt_or_ge i j with h | h
      · exact hx i h
      · have : i = j := by omega
        subst this
        exact ⟨a, ha, by assumption, fun h => ⟨b, hjb h, by omega⟩⟩
  · have hge' : ¬ (j : Int) < l.length := by omega
    (repeat' (first | ((with_reducible first | refine vcG_split ?_ ?_ | refine vcIf_split ?_ ?_ | refine vcQ_split ?_ ?_ | refine vcDG_split ?_ ?_) <;> intro hb <;> (try rw [hb]) <;> (try simp only [bq, bz, dtrue, dfalse] at hb) <;> (try simp only [within] at hb) <;> try (simp only [go_sem, hge'])) | refine And.intro (by first | exact trivial | omega | (simp only [I64]; omega)) ?_ | (with_reducible rw [vc_draw_eq]; first | (refine CV.draw (id := 4) sG04a_f18_4 mixed rfl (by kernel_rfl) ?_; delta sG04a_f18_4)) | (simp only [go_sem, hge'])))
    exact bt fun i hi => hx i (by omega)
def okH (a : Hall) : Prop := okG a.hs ∧ a.bo.length = a.hs.ms.length ∧ a.es.length ≤ 4 ∧ (∀ n, n ∈ a.bo → within n 0 2) ∧ (∀ l, l ∈ a.es → rising l 0 3) ∧ ∀ b, b ∈ a.hs.bs → b.ed < a.es.length
noncomputable def checkH (a : Hall) : Int := if okH a then 0 else 90
theorem ckH0 {a : Hall} (q : okH a) : AV.int .i64 0 = .int .i64 (checkH a) := by simp [checkH, q]
theorem ckH9 {a : Hall} (q : ¬ okH a) : AV.int .i64 90 = .int .i64 (checkH a) := by simp [checkH, q]
theorem checkH0 {a : Hall} : (checkH a = 0) = okH a := by unfold checkH; split <;> simp_all
set_option maxHeartbeats 1000000 in
theorem c5 (a : Hall) : PC Tryz.prog 5 [hH a] (.int .i64 (checkH a)) := by
  refine PC.body Tryz.func5 (by kernel_rfl) rfl (by simp [Tryz.f5]) rfl ?_
  simp only [Tryz.f5]
  intro hlen
  simp only [go_sem, List.length_map, and_true, true_and] at hlen
  refine CV.run ?_
  (repeat' (first | ((with_reducible first | refine vcG_split ?_ ?_ | refine vcIf_split ?_ ?_ | refine vcQ_split ?_ ?_ | refine vcDG_split ?_ ?_) <;> intro hb <;> (try rw [hb]) <;> (try simp only [bq, bz, dtrue, dfalse] at hb) <;> (try simp only [within] at hb) <;> try (simp only [go_sem, checkG0])) | refine And.intro (by first | exact trivial | omega | (simp only [I64]; omega)) ?_ | (with_reducible rw [vc_draw_eq]; first | (refine CV.draw (id := 16) sG04a_f5_16 mixed rfl (by kernel_rfl) ?_; delta sG04a_f5_16)) | (refine vp (c16 a.hs) ?_ ?_; focus (first | exact ⟨rfl, .inl ⟨by first | rfl | simp only [go_sem, checkG0, AV.pureL, AV.pure], by first | (simp only [go_sem, checkG0]; done) | rfl⟩⟩ | exact ⟨rfl, .inr ⟨rfl, by simp only [go_sem, checkG0]⟩⟩)) | (refine dp (c16 a.hs) ?_ ?_; focus exact ⟨rfl, by first | rfl | simp only [go_sem, checkG0, AV.pureL, AV.pure], by first | (simp only [go_sem, checkG0]; done) | rfl⟩) | (refine ds (c16 a.hs) ?_ ?_; focus exact ⟨rfl, rfl⟩) | (simp only [go_sem, checkG0])))
  all_goals try exact ckH9 fun q => by obtain ⟨q1, q2, q3, _⟩ := q; first | exact absurd q1 (by assumption) | omega
  refine vc_for (fun j => ⟨[(3, .int .i64 j), (2, .int .i64 0), (1, .lp 0 0)], [.box 29 (cH a) false]⟩) a.bo.length (fun j => allTo (fun _ n => within n 0 2) a.bo j) (by (first | exact wk_same (by (simp only [go_sem, Int.natCast_add, cn, Int.cast_ofNat_Int])) | (refine wk_drop ?_ ?_ ?_ ?_ ?_ <;> (simp only [go_sem, Int.natCast_add, cn, Int.cast_ofNat_Int])))) .zero ?_
  intro j hj hx
  rcases Nat.lt_or_ge j a.bo.length with hlt | hge
  · obtain ⟨m, hm⟩ := get_of hlt
    have hlt' : (j : Int) < a.bo.length := by omega
    (repeat' (first | ((with_reducible first | refine vcG_split ?_ ?_ | refine vcIf_split ?_ ?_ | refine vcQ_split ?_ ?_ | refine vcDG_split ?_ ?_) <;> intro hb <;> (try rw [hb]) <;> (try simp only [bq, bz, dtrue, dfalse] at hb) <;> (try simp only [within] at hb) <;> try (simp only [go_sem, hlt', hm, encN])) | refine And.intro (by first | exact trivial | omega | (simp only [I64]; omega)) ?_ | (with_reducible rw [vc_draw_eq]; first | (refine CV.draw (id := 16) sG04a_f5_16 mixed rfl (by kernel_rfl) ?_; delta sG04a_f5_16)) | ((with_reducible first | refine vp (c17 _ _ _) ?_ ?_ | refine dc (c17 _ _ _) ?_ ?_); focus (first | exact ⟨rfl, .inl ⟨by first | rfl | simp only [go_sem, hlt', hm, encN, AV.pureL, AV.pure], by first | (simp only [go_sem, hlt', hm, encN]; done) | rfl⟩⟩ | exact ⟨rfl, .inr ⟨rfl, by simp only [go_sem, hlt', hm, encN]⟩⟩)) | ((with_reducible first | refine dp (c17 _ _ _) ?_ ?_); focus exact ⟨rfl, by first | rfl | simp only [go_sem, hlt', hm, encN, AV.pureL, AV.pure], by first | (simp only [go_sem, hlt', hm, encN]; done) | rfl⟩) | ((with_reducible first | refine ds (c17 _ _ _) ?_ ?_); focus exact ⟨rfl, rfl⟩) | (simp only [go_sem, hlt', hm, encN])))
    · exact ckH9 (a := a) fun q => hb (q.2.2.2.1 m (List.mem_of_getElem? hm))
    · exact ⟨by (first | exact wk_same (by (simp only [go_sem, Int.natCast_add, cn, Int.cast_ofNat_Int])) | (refine wk_drop ?_ ?_ ?_ ?_ ?_ <;> (simp only [go_sem, Int.natCast_add, cn, Int.cast_ofNat_Int]))), hx.succ hm (by assumption)⟩
  have hmm := hx.mem hge
  have hge' : ¬ (j : Int) < a.bo.length := by omega
  (repeat' (first | ((with_reducible first | refine vcG_split ?_ ?_ | refine vcIf_split ?_ ?_ | refine vcQ_split ?_ ?_ | refine vcDG_split ?_ ?_) <;> intro hb <;> (try rw [hb]) <;> (try simp only [bq, bz, dtrue, dfalse] at hb) <;> (try simp only [within] at hb) <;> try (simp only [go_sem, hge'])) | refine And.intro (by first | exact trivial | omega | (simp only [I64]; omega)) ?_ | (with_reducible rw [vc_draw_eq]; first | (refine CV.draw (id := 16) sG04a_f5_16 mixed rfl (by kernel_rfl) ?_; delta sG04a_f5_16)) | (simp only [go_sem, hge'])))
  refine vc_for (fun j => ⟨[(4, .int .i64 j), (2, .int .i64 0), (1, .lp 0 0)], [.box 29 (cH a) false]⟩) a.es.length (fun j => allTo (fun _ l => rising l 0 3) a.es j) (by (first | exact wk_same (by (simp only [go_sem, Int.natCast_add, cn, Int.cast_ofNat_Int])) | (refine wk_drop ?_ ?_ ?_ ?_ ?_ <;> (simp only [go_sem, Int.natCast_add, cn, Int.cast_ofNat_Int])))) .zero ?_
  intro k hk hy
  rcases Nat.lt_or_ge k a.es.length with hlt | hge2
  · obtain ⟨n, hn⟩ := get_of hlt
    have hlt' : (k : Int) < a.es.length := by omega
    (repeat' (first | ((with_reducible first | refine vcG_split ?_ ?_ | refine vcIf_split ?_ ?_ | refine vcQ_split ?_ ?_ | refine vcDG_split ?_ ?_) <;> intro hb <;> (try rw [hb]) <;> (try simp only [bq, bz, dtrue, dfalse] at hb) <;> (try simp only [within] at hb) <;> try (simp only [go_sem, hlt', hn, encP])) | refine And.intro (by first | exact trivial | omega | (simp only [I64]; omega)) ?_ | (with_reducible rw [vc_draw_eq]; first | (refine CV.draw (id := 16) sG04a_f5_16 mixed rfl (by kernel_rfl) ?_; delta sG04a_f5_16)) | ((with_reducible first | refine vp (c18 _ _ _) ?_ ?_ | refine dc (c18 _ _ _) ?_ ?_); focus (first | exact ⟨rfl, .inl ⟨by first | rfl | simp only [go_sem, hlt', hn, encP, AV.pureL, AV.pure], by first | (simp only [go_sem, hlt', hn, encP]; done) | rfl⟩⟩ | exact ⟨rfl, .inr ⟨rfl, by simp only [go_sem, hlt', hn, encP]⟩⟩)) | ((with_reducible first | refine dp (c18 _ _ _) ?_ ?_); focus exact ⟨rfl, by first | rfl | simp only [go_sem, hlt', hn, encP, AV.pureL, AV.pure], by first | (simp only [go_sem, hlt', hn, encP]; done) | rfl⟩) | ((with_reducible first | refine ds (c18 _ _ _) ?_ ?_); focus exact ⟨rfl, rfl⟩) | (simp only [go_sem, hlt', hn, encP])))
    · exact ckH9 (a := a) fun q => hb (q.2.2.2.2.1 n (List.mem_of_getElem? hn))
    · exact ⟨by (first | exact wk_same (by (simp only [go_sem, Int.natCast_add, cn, Int.cast_ofNat_Int])) | (refine wk_drop ?_ ?_ ?_ ?_ ?_ <;> (simp only [go_sem, Int.natCast_add, cn, Int.cast_ofNat_Int]))), hy.succ hn (by assumption)⟩
  have htt := hy.mem hge2
  have hge2' : ¬ (k : Int) < a.es.length := by omega
  (repeat' (first | ((with_reducible first | refine vcG_split ?_ ?_ | refine vcIf_split ?_ ?_ | refine vcQ_split ?_ ?_ | refine vcDG_split ?_ ?_) <;> intro hb <;> (try rw [hb]) <;> (try simp only [bq, bz, dtrue, dfalse] at hb) <;> (try simp only [within] at hb) <;> try (simp only [go_sem, hge2'])) | refine And.intro (by first | exact trivial | omega | (simp only [I64]; omega)) ?_ | (with_reducible rw [vc_draw_eq]; first | (refine CV.draw (id := 16) sG04a_f5_16 mixed rfl (by kernel_rfl) ?_; delta sG04a_f5_16)) | (simp only [go_sem, hge2'])))
  refine vc_for (fun j => ⟨[(5, .int .i64 j), (2, .int .i64 0), (1, .lp 0 0)], [.box 29 (cH a) false]⟩) a.hs.bs.length (fun j => allTo (fun _ (b : Bun) => b.ed < a.es.length) a.hs.bs j) (by (first | exact wk_same (by (simp only [go_sem, Int.natCast_add, cn, Int.cast_ofNat_Int])) | (refine wk_drop ?_ ?_ ?_ ?_ ?_ <;> (simp only [go_sem, Int.natCast_add, cn, Int.cast_ofNat_Int])))) .zero ?_
  intro i hi hz
  rcases Nat.lt_or_ge i a.hs.bs.length with hlt | hge3
  · obtain ⟨b, hbb⟩ := get_of hlt
    have hlt' : (i : Int) < a.hs.bs.length := by omega
    (repeat' (first | ((with_reducible first | refine vcG_split ?_ ?_ | refine vcIf_split ?_ ?_ | refine vcQ_split ?_ ?_ | refine vcDG_split ?_ ?_) <;> intro hb <;> (try rw [hb]) <;> (try simp only [bq, bz, dtrue, dfalse] at hb) <;> (try simp only [within] at hb) <;> try (simp only [go_sem, hlt', hbb, encB])) | refine And.intro (by first | exact trivial | omega | (simp only [I64]; omega)) ?_ | (with_reducible rw [vc_draw_eq]; first | (refine CV.draw (id := 16) sG04a_f5_16 mixed rfl (by kernel_rfl) ?_; delta sG04a_f5_16)) | (simp only [go_sem, hlt', hbb, encB])))
    · exact ckH9 (a := a) fun q => absurd (q.2.2.2.2.2 b (List.mem_of_getElem? hbb)) (by omega)
    · exact ⟨by (first | exact wk_same (by (simp only [go_sem, Int.natCast_add, cn, Int.cast_ofNat_Int])) | (refine wk_drop ?_ ?_ ?_ ?_ ?_ <;> (simp only [go_sem, Int.natCast_add, cn, Int.cast_ofNat_Int]))), hz.succ hbb (by omega)⟩
  · have hge3' : ¬ (i : Int) < a.hs.bs.length := by omega
    (repeat' (first | ((with_reducible first | refine vcG_split ?_ ?_ | refine vcIf_split ?_ ?_ | refine vcQ_split ?_ ?_ | refine vcDG_split ?_ ?_) <;> intro hb <;> (try rw [hb]) <;> (try simp only [bq, bz, dtrue, dfalse] at hb) <;> (try simp only [within] at hb) <;> try (simp only [go_sem, hge3'])) | refine And.intro (by first | exact trivial | omega | (simp only [I64]; omega)) ?_ | (with_reducible rw [vc_draw_eq]; first | (refine CV.draw (id := 16) sG04a_f5_16 mixed rfl (by kernel_rfl) ?_; delta sG04a_f5_16)) | (simp only [go_sem, hge3'])))
    exact ckH0 ⟨by assumption, by omega, by omega, hmm, htt, hz.mem hge3⟩
theorem c59 (n : Int) : PC Tryz.prog 59 [.int .i64 n] (.bool (decide (¬ within n 0 2))) := by
  refine PC.body Tryz.func59 (by kernel_rfl) rfl (by simp [Tryz.f59]) rfl ?_
  simp only [Tryz.f59]
  intro hlen
  simp only [go_sem, List.length_map, and_true, true_and] at hlen
  refine CV.run ?_
  (repeat' (first | ((with_reducible first | refine vcG_split ?_ ?_ | refine vcIf_split ?_ ?_ | refine vcQ_split ?_ ?_ | refine vcDG_split ?_ ?_) <;> intro hb <;> (try rw [hb]) <;> (try simp only [bq, bz, dtrue, dfalse] at hb) <;> (try simp only [within] at hb) <;> try (simp only [go_sem])) | refine And.intro (by first | exact trivial | omega | (simp only [I64]; omega)) ?_ | ((with_reducible first | refine vp (c60 _ _ _) ?_ ?_); focus (first | exact ⟨rfl, .inl ⟨by first | rfl | simp only [go_sem, AV.pureL, AV.pure], by first | (simp only [go_sem]; done) | rfl⟩⟩ | exact ⟨rfl, .inr ⟨rfl, by simp only [go_sem]⟩⟩)) | (simp only [go_sem])))
  all_goals exact bn (by simp)
theorem c62 (a : Hall) (b : Bun) : PC Tryz.prog 62 [.agg (encB b), .pp (cH a)] (.bool (decide (¬ b.ed < a.es.length))) := by
  simp only [encB]
  refine PC.body Tryz.func62 (by kernel_rfl) rfl (by simp [Tryz.f62]) rfl ?_
  simp only [Tryz.f62]
  intro hlen
  simp only [go_sem, List.length_map, and_true, true_and] at hlen
  refine CV.run ?_
  (repeat' (first | ((with_reducible first | refine vcG_split ?_ ?_ | refine vcIf_split ?_ ?_ | refine vcQ_split ?_ ?_ | refine vcDG_split ?_ ?_) <;> intro hb <;> (try rw [hb]) <;> (try simp only [bq, bz, dtrue, dfalse] at hb) <;> (try simp only [within] at hb) <;> try (simp only [go_sem])) | refine And.intro (by first | exact trivial | omega | (simp only [I64]; omega)) ?_ | (simp only [go_sem])))
  all_goals exact bd (by omega)
theorem rise_ge {l : List Int} {hi : Int} : ∀ {i : Nat}, (∀ k, k < i → risingAt l 0 hi k) → ∀ k, k < i → ∃ a, l[k]? = some a ∧ (k : Int) ≤ a ∧ a ≤ hi
  | i, h, 0, hk => by
    obtain ⟨a, h1, h2, _⟩ := h 0 hk
    exact ⟨a, h1, h2.1, h2.2⟩
  | i, h, k + 1, hk => by
    obtain ⟨a, h1, h2, h3⟩ := h (k + 1) hk
    obtain ⟨b, h4, h5⟩ := h3 (by omega)
    obtain ⟨c, h6, h7, _⟩ := rise_ge h k (by omega)
    rw [Nat.add_sub_cancel, h6] at h4
    cases h4
    exact ⟨a, h1, by omega, h2.2⟩
theorem rise_le {l : List Int} {i : Nat} (h : ∀ k, k < i → risingAt l 0 3 k) : i ≤ 4 := by
  rcases Nat.lt_or_ge 4 i with h4 | h4
  · obtain ⟨a, _, h1, h2⟩ := rise_ge h 4 h4
    omega
  · exact h4
set_option maxHeartbeats 1000000 in
theorem c43 (a : Hall) : PC Tryz.prog 43 [hH a] (.int .i64 (checkH a)) := by
  have h58 := W2.c58 a.bo 59 (fun n => ¬ within n 0 2) fun n _ => (c59 n).dec
  have h61 := c61 a.hs.bs 62 (cH a) rfl (fun b => ¬ b.ed < a.es.length) fun b _ => (c62 a b).dec
  refine PC.body Tryz.func43 (by kernel_rfl) rfl (by simp [Tryz.f43]) rfl ?_
  simp only [Tryz.f43]
  intro hlen
  simp only [go_sem, List.length_map, and_true, true_and] at hlen
  refine CV.run ?_
  (repeat' (first | ((with_reducible first | refine vcG_split ?_ ?_ | refine vcIf_split ?_ ?_ | refine vcQ_split ?_ ?_ | refine vcDG_split ?_ ?_) <;> intro hb <;> (try rw [hb]) <;> (try simp only [bq, bz, dtrue, dfalse] at hb) <;> (try simp only [within] at hb) <;> try (simp only [go_sem, checkG0])) | refine And.intro (by first | exact trivial | omega | (simp only [I64]; omega)) ?_ | (refine vp (c57 a.hs) ?_ ?_; focus (first | exact ⟨rfl, .inl ⟨by first | rfl | simp only [go_sem, checkG0, AV.pureL, AV.pure], by first | (simp only [go_sem, checkG0]; done) | rfl⟩⟩ | exact ⟨rfl, .inr ⟨rfl, by simp only [go_sem, checkG0]⟩⟩)) | ((with_reducible first | refine vp h58 ?_ ?_ | refine vp h61 ?_ ?_); focus (first | exact ⟨rfl, .inl ⟨by first | rfl | simp only [go_sem, checkG0, AV.pureL, AV.pure], by first | (simp only [go_sem, checkG0]; done) | rfl⟩⟩ | exact ⟨rfl, .inr ⟨rfl, by simp only [go_sem, checkG0]⟩⟩)) | (simp only [go_sem, checkG0])))
  all_goals try exact ckH9 fun q => by obtain ⟨q1, q2, q3, _⟩ := q; first | exact absurd q1 (by assumption) | omega
  · obtain ⟨n, h1, h2⟩ := hb
    exact ckH9 fun q => h2 (q.2.2.2.1 n h1)
  have nb := hb
  have hbo : ∀ n, n ∈ a.bo → within n 0 2 := fun n hn => Classical.byContradiction fun h => nb ⟨n, hn, h⟩
  refine vc_for (fun j => ⟨[(33, .int .i64 j), (32, .int .i64 a.es.length), (31, lP a.es), (2, .int .i64 0), (1, .lp 0 0)], [.box 29 (cH a) false]⟩) a.es.length (fun j => allTo (fun _ l => rising l 0 3) a.es j) (by (first | exact wk_same (by (simp only [go_sem, Int.natCast_add, cn, Int.cast_ofNat_Int])) | (refine wk_drop ?_ ?_ ?_ ?_ ?_ <;> (simp only [go_sem, Int.natCast_add, cn, Int.cast_ofNat_Int])))) .zero ?_
  intro j hj hx
  rcases Nat.lt_or_ge j a.es.length with hlt | hge
  · obtain ⟨l, hl⟩ := get_of hlt
    have hlt' : (j : Int) < a.es.length := by omega
    (repeat' (first | ((with_reducible first | refine vcG_split ?_ ?_ | refine vcIf_split ?_ ?_ | refine vcQ_split ?_ ?_ | refine vcDG_split ?_ ?_) <;> intro hb <;> (try rw [hb]) <;> (try simp only [bq, bz, dtrue, dfalse] at hb) <;> (try simp only [within] at hb) <;> try (simp only [go_sem, hlt', hl, encP])) | refine And.intro (by first | exact trivial | omega | (simp only [I64]; omega)) ?_ | (simp only [go_sem, hlt', hl, encP])))
    refine vc_for (fun i => ⟨[(39, .int .i64 i), (38, .int .i64 l.length), (37, lN l), (4, lN l), (33, .int .i64 j), (32, .int .i64 a.es.length), (31, lP a.es), (2, .int .i64 0), (1, .lp 0 0)], [.box 29 (cH a) false]⟩) l.length (fun i => ∀ k, k < i → risingAt l 0 3 k) (by (first | exact wk_same (by (simp only [go_sem, Int.natCast_add, cn, Int.cast_ofNat_Int])) | (refine wk_drop ?_ ?_ ?_ ?_ ?_ <;> (simp only [go_sem, Int.natCast_add, cn, Int.cast_ofNat_Int])))) (fun i h => by omega) ?_
    intro i hi hy
    rcases Nat.lt_or_ge i l.length with hlt2 | hge2
    · obtain ⟨x, hxx⟩ := get_of hlt2
      obtain ⟨b, hbb⟩ := get_of (l := l) (j := ((i : Int) - 1).toNat) (by omega)
      have hjb : 0 < i → l[i-1]? = some b := fun h => by rw [← hbb]; congr 1; omega
      have hlt2' : (i : Int) < l.length := by omega
      have hi4 := rise_le hy
      (repeat' (first | ((with_reducible first | refine vcG_split ?_ ?_ | refine vcIf_split ?_ ?_ | refine vcQ_split ?_ ?_ | refine vcDG_split ?_ ?_) <;> intro hb <;> (try rw [hb]) <;> (try simp only [bq, bz, dtrue, dfalse] at hb) <;> (try simp only [within] at hb) <;> try (simp only [go_sem, hlt2', hxx, hbb, encN])) | refine And.intro (by first | exact trivial | omega | (simp only [I64]; omega)) ?_ | ((with_reducible first | refine vp (c60 _ _ _) ?_ ?_); focus (first | exact ⟨rfl, .inl ⟨by first | rfl | simp only [go_sem, hlt2', hxx, hbb, encN, AV.pureL, AV.pure], by first | (simp only [go_sem, hlt2', hxx, hbb, encN]; done) | rfl⟩⟩ | exact ⟨rfl, .inr ⟨rfl, by simp only [go_sem, hlt2', hxx, hbb, encN]⟩⟩)) | (simp only [go_sem, hlt2', hxx, hbb, encN])))
      · exact ckH9 (a := a) fun q => hb (by obtain ⟨a', h1, h2, _⟩ := q.2.2.2.2.1 l (List.mem_of_getElem? hl) i hlt2; rw [hxx] at h1; cases h1; exact h2)
      · exact ckH9 (a := a) fun q => by
          obtain ⟨a', h1, h2, h3⟩ := q.2.2.2.2.1 l (List.mem_of_getElem? hl) i hlt2; rw [hxx] at h1; cases h1
          obtain ⟨b', h4, h5⟩ := h3 (by omega)
          rw [hjb (by omega)] at h4; cases h4
          omega
      all_goals
        refine ⟨by (first | exact wk_same (by (simp only [go_sem, Int.natCast_add, cn, Int.cast_ofNat_Int])) | (refine wk_drop ?_ ?_ ?_ ?_ ?_ <;> (simp only [go_sem, Int.natCast_add, cn, Int.cast_ofNat_Int]))), fun k hk => ?_⟩
        rcases Nat.lt_or_ge k i with h | h
        · exact hy k h
        · have : k = i := by omega
          subst this
          exact ⟨x, hxx, by assumption, fun h => ⟨b, hjb h, by omega⟩⟩
    · have hge2' : ¬ (i : Int) < l.length := by omega
      (repeat' (first | ((with_reducible first | refine vcG_split ?_ ?_ | refine vcIf_split ?_ ?_ | refine vcQ_split ?_ ?_ | refine vcDG_split ?_ ?_) <;> intro hb <;> (try rw [hb]) <;> (try simp only [bq, bz, dtrue, dfalse] at hb) <;> (try simp only [within] at hb) <;> try (simp only [go_sem, hge2'])) | refine And.intro (by first | exact trivial | omega | (simp only [I64]; omega)) ?_ | (simp only [go_sem, hge2'])))
      exact ⟨by (first | exact wk_same (by (simp only [go_sem, Int.natCast_add, cn, Int.cast_ofNat_Int])) | (refine wk_drop ?_ ?_ ?_ ?_ ?_ <;> (simp only [go_sem, Int.natCast_add, cn, Int.cast_ofNat_Int]))), hx.succ hl fun k hk => hy k (by omega)⟩
  have hee := hx.mem hge
  have hge' : ¬ (j : Int) < a.es.length := by omega
  (repeat' (first | ((with_reducible first | refine vcG_split ?_ ?_ | refine vcIf_split ?_ ?_ | refine vcQ_split ?_ ?_ | refine vcDG_split ?_ ?_) <;> intro hb <;> (try rw [hb]) <;> (try simp only [bq, bz, dtrue, dfalse] at hb) <;> (try simp only [within] at hb) <;> try (simp only [go_sem, hge'])) | refine And.intro (by first | exact trivial | omega | (simp only [I64]; omega)) ?_ | ((with_reducible first | refine vp h61 ?_ ?_); focus (first | exact ⟨rfl, .inl ⟨by first | rfl | simp only [go_sem, hge', AV.pureL, AV.pure], by first | (simp only [go_sem, hge']; done) | rfl⟩⟩ | exact ⟨rfl, .inr ⟨rfl, by simp only [go_sem, hge']⟩⟩)) | (simp only [go_sem, hge'])))
  · obtain ⟨b, h1, h2⟩ := hb
    exact ckH9 fun q => h2 (q.2.2.2.2.2 b h1)
  · exact ckH0 ⟨by assumption, by omega, by omega, hbo, hee, fun b h1 => Classical.byContradiction fun h => hb ⟨b, h1, h⟩⟩
def longP (p : List (List Int)) : Prop := 40 < p.length ∨ ∃ l, l ∈ p ∧ 40 < l.length
def hugeH (a : Hall) : Prop := hugeG a.hs ∨ 40 < a.bo.length ∨ longP a.es
def farH (a : Hall) : Prop := hugeH a ∨ 3 < a.hs.bs.length ∧ okH a
theorem c36 (p : List (List Int)) : PC Tryz.prog 36 [lP p] (.bool (decide (longP p))) := by
  refine PC.body Tryz.func36 (by kernel_rfl) rfl (by simp [Tryz.f36]) rfl ?_
  simp only [Tryz.f36]
  intro hlen
  simp only [go_sem, List.length_map, and_true, true_and] at hlen
  refine CV.run ?_
  (repeat' (first | ((with_reducible first | refine vcG_split ?_ ?_ | refine vcIf_split ?_ ?_ | refine vcQ_split ?_ ?_ | refine vcDG_split ?_ ?_) <;> intro hb <;> (try rw [hb]) <;> (try simp only [bq, bz, dtrue, dfalse] at hb) <;> (try simp only [within] at hb) <;> try (simp only [go_sem])) | refine And.intro (by first | exact trivial | omega | (simp only [I64]; omega)) ?_ | (simp only [go_sem])))
  · exact bt (.inl (by omega))
  refine vc_for (fun j => ⟨[(3, .int .i64 j), (2, .bool false), (0, lP p)], []⟩) p.length (fun j => allTo (fun _ (l : List Int) => ¬ 40 < l.length) p j) (by (first | exact wk_same (by (simp only [go_sem, Int.natCast_add, cn, Int.cast_ofNat_Int])) | (refine wk_drop ?_ ?_ ?_ ?_ ?_ <;> (simp only [go_sem, Int.natCast_add, cn, Int.cast_ofNat_Int])))) .zero ?_
  intro j hj hx
  rcases Nat.lt_or_ge j p.length with hlt | hge
  · obtain ⟨l, hl⟩ := get_of hlt
    have hlt' : (j : Int) < p.length := by omega
    (repeat' (first | ((with_reducible first | refine vcG_split ?_ ?_ | refine vcIf_split ?_ ?_ | refine vcQ_split ?_ ?_ | refine vcDG_split ?_ ?_) <;> intro hb <;> (try rw [hb]) <;> (try simp only [bq, bz, dtrue, dfalse] at hb) <;> (try simp only [within] at hb) <;> try (simp only [go_sem, hlt', hl, encP])) | refine And.intro (by first | exact trivial | omega | (simp only [I64]; omega)) ?_ | (simp only [go_sem, hlt', hl, encP])))
    · exact bt (.inr ⟨l, List.mem_of_getElem? hl, by omega⟩)
    · exact ⟨by (first | exact wk_same (by (simp only [go_sem, Int.natCast_add, cn, Int.cast_ofNat_Int])) | (refine wk_drop ?_ ?_ ?_ ?_ ?_ <;> (simp only [go_sem, Int.natCast_add, cn, Int.cast_ofNat_Int]))), hx.succ hl (by omega)⟩
  · have hge' : ¬ (j : Int) < p.length := by omega
    (repeat' (first | ((with_reducible first | refine vcG_split ?_ ?_ | refine vcIf_split ?_ ?_ | refine vcQ_split ?_ ?_ | refine vcDG_split ?_ ?_) <;> intro hb <;> (try rw [hb]) <;> (try simp only [bq, bz, dtrue, dfalse] at hb) <;> (try simp only [within] at hb) <;> try (simp only [go_sem, hge'])) | refine And.intro (by first | exact trivial | omega | (simp only [I64]; omega)) ?_ | (simp only [go_sem, hge'])))
    exact bf fun q => q.elim (by omega) fun ⟨l, h1, h2⟩ => hx.mem hge l h1 h2
theorem c15 (a : Hall) : PC Tryz.prog 15 [hH a] (.bool (decide (hugeH a))) := by
  refine PC.body Tryz.func15 (by kernel_rfl) rfl (by simp [Tryz.f15]) rfl ?_
  simp only [Tryz.f15]
  intro hlen
  simp only [go_sem, List.length_map, and_true, true_and] at hlen
  refine CV.run ?_
  (repeat' (first | ((with_reducible first | refine vcG_split ?_ ?_ | refine vcIf_split ?_ ?_ | refine vcQ_split ?_ ?_ | refine vcDG_split ?_ ?_) <;> intro hb <;> (try rw [hb]) <;> (try simp only [bq, bz, dtrue, dfalse] at hb) <;> (try simp only [within] at hb) <;> try (simp only [go_sem])) | refine And.intro (by first | exact trivial | omega | (simp only [I64]; omega)) ?_ | (refine vp (c35 a.hs) ?_ ?_; focus (first | exact ⟨rfl, .inl ⟨by first | rfl | simp only [go_sem, AV.pureL, AV.pure], by first | (simp only [go_sem]; done) | rfl⟩⟩ | exact ⟨rfl, .inr ⟨rfl, by simp only [go_sem]⟩⟩)) | (refine vp (c36 a.es) ?_ ?_; focus (first | exact ⟨rfl, .inl ⟨by first | rfl | simp only [go_sem, AV.pureL, AV.pure], by first | (simp only [go_sem]; done) | rfl⟩⟩ | exact ⟨rfl, .inr ⟨rfl, by simp only [go_sem]⟩⟩)) | (simp only [go_sem])))
  all_goals first | exact bt (p := hugeH a) (.inl (by assumption)) | exact bt (p := hugeH a) (.inr (.inl (by omega))) | exact bd (p := longP a.es) (by unfold hugeH; constructor <;> intro q <;> first | exact .inr (.inr q) | (rcases q with q | q | q <;> first | exact q | contradiction | omega)) | trace_state
theorem c4 (a : Hall) : PC Tryz.prog 4 [hH a] (.bool (decide (farH a))) := by
  refine PC.body Tryz.func4 (by kernel_rfl) rfl (by simp [Tryz.f4]) rfl ?_
  simp only [Tryz.f4]
  intro hlen
  simp only [go_sem, List.length_map, and_true, true_and] at hlen
  refine CV.run ?_
  (repeat' (first | ((with_reducible first | refine vcG_split ?_ ?_ | refine vcIf_split ?_ ?_ | refine vcQ_split ?_ ?_ | refine vcDG_split ?_ ?_) <;> intro hb <;> (try rw [hb]) <;> (try simp only [bq, bz, dtrue, dfalse] at hb) <;> (try simp only [within] at hb) <;> try (simp only [go_sem, checkH0])) | refine And.intro (by first | exact trivial | omega | (simp only [I64]; omega)) ?_ | ((with_reducible first | refine vp (c15 a) ?_ ?_ | refine vp (c5 a) ?_ ?_); focus (first | exact ⟨rfl, .inl ⟨by first | rfl | simp only [go_sem, checkH0, AV.pureL, AV.pure], by first | (simp only [go_sem, checkH0]; done) | rfl⟩⟩ | exact ⟨rfl, .inr ⟨rfl, by simp only [go_sem, checkH0]⟩⟩)) | (simp only [go_sem, checkH0])))
  all_goals first | exact bt (p := farH a) (.inl (by assumption)) | exact bf (p := farH a) (fun q => q.elim (by assumption) (by omega)) | exact bd (by unfold farH; constructor <;> intro q <;> first | exact .inr ⟨by omega, q⟩ | (rcases q with q | q <;> first | exact q.2 | contradiction)) | trace_state
end Go.Proofs.YtoadkchhimojlaaGreat

