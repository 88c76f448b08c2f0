/- Contracts of functions of the given program, without a condition beyond those that each theorem states; they lead to the given statement. -/
import Derived.Test.YtjlopclpofbgbaaDoorTyp
import Derived.Test.YtjlopclpofbgbaaDoorFlB
set_option linter.unusedSimpArgs false
set_option linter.unusedVariables false
set_option maxRecDepth 100000
namespace Go.Proofs.YtjlopclpofbgbaaDoor
open Go Go.Fl
open Classical
def sF10a_f58_4 : List (Nat × Nat) := [(0, 0), (0, 0), (0, 0), (0, 0), (0, 0), (0, 0), (0, 0), (0, 0), (0, 0), (0, 0), (0, 0), (0, 0), (0, 0), (0, 0), (0, 0), (0, 0), (0, 0), (0, 0), (0, 0), (0, 0), (0, 0), (0, 0), (0, 0), (0, 0)]
def sF10a_f27_6 : List (Nat × Nat) := [(0, 0), (0, 0), (0, 0), (0, 0), (0, 0), (0, 0), (0, 0), (0, 0), (0, 0)]
def sF10a_f43_4 : List (Nat × Nat) := [(0, 0), (0, 0), (0, 0), (0, 0), (0, 0), (0, 0), (0, 0), (0, 0), (0, 0)]
def sF10a_f43_5 : List (Nat × Nat) := [(0, 0), (0, 0), (0, 0), (0, 0), (0, 0), (0, 0), (0, 0), (0, 0), (0, 0), (0, 0)]
theorem mixed : Tryd.prog.follows .mixedOrders = true := by kernel_rfl
structure Thing where
  of : Int
  at_ : Int
  cost : Int
  prints : Int
structure Mark where
  change : Int
  thing : Int
  at_ : Int
def encT (t : Thing) : List AV := [.int .i64 t.of, .int .i64 t.at_, .int .i64 t.cost, .int .i64 t.prints]
def encM (t : Mark) : List AV := [.int .i64 t.change, .int .i64 t.thing, .int .i64 t.at_]
theorem pureT (l : List Thing) : pureE (l.map encT) = True := pureE_map fun _ => rfl
theorem pureM (l : List Mark) : pureE (l.map encM) = True := pureE_map fun _ => rfl
attribute [go_sem] pureT pureM
abbrev hT (ts : List Thing) (ms : List Mark) : AV := .agg [.lst false 4 (ts.map encT), .lst false 3 (ms.map encM)]
theorem c97 (n lo hi : Int) : PC Tryd.prog 97 [.int .i64 n, .int .i64 lo, .int .i64 hi] (.bool (decide (within n lo hi))) := by
  refine PC.body Tryd.func97 (by kernel_rfl) rfl (by simp [Tryd.f97]) rfl ?_
  simp only [Tryd.f97]
  intro hlen
  simp only [go_sem, List.length_map, and_true, true_and] at hlen
  refine CV.run ?_
  (repeat' (first | ((with_reducible first | apply sg | apply si | apply sq | apply sd) <;> intro hb <;> (try rw [hb]) <;> (try simp only [bq, bz, dtrue, dfalse] at hb) <;> (try simp only [within, Classical.not_not] at hb) <;> try simp only [go_sem]) | refine And.intro (by first | exact ⟨⟩ | omega | (simp only [I64]; omega)) ?_ | (simp only [go_sem])))
  · simp [within, hb]
  · exact bf fun h => absurd h.1 (by omega)
theorem c115 (n lo hi : Int) : PC Tryd.prog 115 [.int .i64 n, .int .i64 lo, .int .i64 hi] (.bool (decide (within n lo hi))) := by
  refine PC.body Tryd.func115 (by kernel_rfl) rfl (by simp [Tryd.f115]) rfl ?_
  simp only [Tryd.f115]
  intro hlen
  simp only [go_sem, List.length_map, and_true, true_and] at hlen
  refine CV.run ?_
  (repeat' (first | ((with_reducible first | apply sg | apply si | apply sq | apply sd) <;> intro hb <;> (try rw [hb]) <;> (try simp only [bq, bz, dtrue, dfalse] at hb) <;> (try simp only [within, Classical.not_not] at hb) <;> try simp only [go_sem]) | refine And.intro (by first | exact ⟨⟩ | omega | (simp only [I64]; omega)) ?_ | ((with_reducible first | apply vp (c97 _ _ _)); focus (refine ⟨rfl, ?_⟩; first | exact .inl ⟨rfl, rfl⟩ | simp only [go_sem, AV.pureL, AV.pure, hq] | (refine .inr ⟨rfl, ?_⟩; simp only [go_sem, AV.pureL, AV.pure, hq]))) | (simp only [go_sem])))
theorem c108 (n lo hi : Int) : PC Tryd.prog 108 [.int .i64 n, .int .i64 lo, .int .i64 hi] (.bool (decide (within n lo hi))) := by
  refine PC.body Tryd.func108 (by kernel_rfl) rfl (by simp [Tryd.f108]) rfl ?_
  simp only [Tryd.f108]
  intro hlen
  simp only [go_sem, List.length_map, and_true, true_and] at hlen
  refine CV.run ?_
  (repeat' (first | ((with_reducible first | apply sg | apply si | apply sq | apply sd) <;> intro hb <;> (try rw [hb]) <;> (try simp only [bq, bz, dtrue, dfalse] at hb) <;> (try simp only [within, Classical.not_not] at hb) <;> try simp only [go_sem]) | refine And.intro (by first | exact ⟨⟩ | omega | (simp only [I64]; omega)) ?_ | (simp only [go_sem])))
  · simp [within, hb]
  · exact bf fun h => absurd h.1 (by omega)
theorem c128 (n : Int) : PC Tryd.prog 128 [.int .i64 n] (.bool (decide (within n 0 2))) := by
  refine PC.body Tryd.func128 (by kernel_rfl) rfl (by simp [Tryd.f128]) rfl ?_
  simp only [Tryd.f128]
  intro hlen
  simp only [go_sem, List.length_map, and_true, true_and] at hlen
  refine CV.run ?_
  (repeat' (first | ((with_reducible first | apply sg | apply si | apply sq | apply sd) <;> intro hb <;> (try rw [hb]) <;> (try simp only [bq, bz, dtrue, dfalse] at hb) <;> (try simp only [within, Classical.not_not] at hb) <;> try simp only [go_sem]) | refine And.intro (by first | exact ⟨⟩ | omega | (simp only [I64]; omega)) ?_ | ((with_reducible first | apply vp (c115 _ _ _)); focus (refine ⟨rfl, ?_⟩; first | exact .inl ⟨rfl, rfl⟩ | simp only [go_sem, AV.pureL, AV.pure, hq] | (refine .inr ⟨rfl, ?_⟩; simp only [go_sem, AV.pureL, AV.pure, hq]))) | (simp only [go_sem])))
theorem c116 (n : Int) : PC Tryd.prog 116 [.int .i64 n] (.bool (decide (within n 0 99))) := by
  refine PC.body Tryd.func116 (by kernel_rfl) rfl (by simp [Tryd.f116]) rfl ?_
  simp only [Tryd.f116]
  intro hlen
  simp only [go_sem, List.length_map, and_true, true_and] at hlen
  refine CV.run ?_
  (repeat' (first | ((with_reducible first | apply sg | apply si | apply sq | apply sd) <;> intro hb <;> (try rw [hb]) <;> (try simp only [bq, bz, dtrue, dfalse] at hb) <;> (try simp only [within, Classical.not_not] at hb) <;> try simp only [go_sem]) | refine And.intro (by first | exact ⟨⟩ | omega | (simp only [I64]; omega)) ?_ | ((with_reducible first | apply vp (c115 _ _ _)); focus (refine ⟨rfl, ?_⟩; first | exact .inl ⟨rfl, rfl⟩ | simp only [go_sem, AV.pureL, AV.pure, hq] | (refine .inr ⟨rfl, ?_⟩; simp only [go_sem, AV.pureL, AV.pure, hq]))) | (simp only [go_sem])))
theorem c111 (n : Int) : PC Tryd.prog 111 [.int .i64 n] (.bool (decide (within n 0 2))) := by
  refine PC.body Tryd.func111 (by kernel_rfl) rfl (by simp [Tryd.f111]) rfl ?_
  simp only [Tryd.f111]
  intro hlen
  simp only [go_sem, List.length_map, and_true, true_and] at hlen
  refine CV.run ?_
  (repeat' (first | ((with_reducible first | apply sg | apply si | apply sq | apply sd) <;> intro hb <;> (try rw [hb]) <;> (try simp only [bq, bz, dtrue, dfalse] at hb) <;> (try simp only [within, Classical.not_not] at hb) <;> try simp only [go_sem]) | refine And.intro (by first | exact ⟨⟩ | omega | (simp only [I64]; omega)) ?_ | ((with_reducible first | apply vp (c108 _ _ _)); focus (refine ⟨rfl, ?_⟩; first | exact .inl ⟨rfl, rfl⟩ | simp only [go_sem, AV.pureL, AV.pure, hq] | (refine .inr ⟨rfl, ?_⟩; simp only [go_sem, AV.pureL, AV.pure, hq]))) | (simp only [go_sem])))
theorem c121 (n : Int) : PC Tryd.prog 121 [.int .i64 n] (.bool (decide (within n 0 99))) := by
  refine PC.body Tryd.func121 (by kernel_rfl) rfl (by simp [Tryd.f121]) rfl ?_
  simp only [Tryd.f121]
  intro hlen
  simp only [go_sem, List.length_map, and_true, true_and] at hlen
  refine CV.run ?_
  (repeat' (first | ((with_reducible first | apply sg | apply si | apply sq | apply sd) <;> intro hb <;> (try rw [hb]) <;> (try simp only [bq, bz, dtrue, dfalse] at hb) <;> (try simp only [within, Classical.not_not] at hb) <;> try simp only [go_sem]) | refine And.intro (by first | exact ⟨⟩ | omega | (simp only [I64]; omega)) ?_ | ((with_reducible first | apply vp (c108 _ _ _)); focus (refine ⟨rfl, ?_⟩; first | exact .inl ⟨rfl, rfl⟩ | simp only [go_sem, AV.pureL, AV.pure, hq] | (refine .inr ⟨rfl, ?_⟩; simp only [go_sem, AV.pureL, AV.pure, hq]))) | (simp only [go_sem])))
theorem c129 (ts : List Thing) (ms : List Mark) (n : Int) : PC Tryd.prog 129 [hT ts ms, .int .i64 n] (.bool (decide (within n 0 (ts.length - 1)))) := by
  refine PC.body Tryd.func129 (by kernel_rfl) rfl (by simp [Tryd.f129]) rfl ?_
  simp only [Tryd.f129]
  intro hlen
  simp only [go_sem, List.length_map, and_true, true_and] at hlen
  refine CV.run ?_
  (repeat' (first | ((with_reducible first | apply sg | apply si | apply sq | apply sd) <;> intro hb <;> (try rw [hb]) <;> (try simp only [bq, bz, dtrue, dfalse] at hb) <;> (try simp only [within, Classical.not_not] at hb) <;> try simp only [go_sem]) | refine And.intro (by first | exact ⟨⟩ | omega | (simp only [I64]; omega)) ?_ | ((with_reducible first | apply vp (c115 _ _ _)); focus (refine ⟨rfl, ?_⟩; first | exact .inl ⟨rfl, rfl⟩ | simp only [go_sem, AV.pureL, AV.pure, hq] | (refine .inr ⟨rfl, ?_⟩; simp only [go_sem, AV.pureL, AV.pure, hq]))) | (simp only [go_sem])))
theorem c112 (ts : List Thing) (ms : List Mark) (n : Int) : PC Tryd.prog 112 [hT ts ms, .int .i64 n] (.bool (decide (within n 0 (ts.length - 1)))) := by
  refine PC.body Tryd.func112 (by kernel_rfl) rfl (by simp [Tryd.f112]) rfl ?_
  simp only [Tryd.f112]
  intro hlen
  simp only [go_sem, List.length_map, and_true, true_and] at hlen
  refine CV.run ?_
  (repeat' (first | ((with_reducible first | apply sg | apply si | apply sq | apply sd) <;> intro hb <;> (try rw [hb]) <;> (try simp only [bq, bz, dtrue, dfalse] at hb) <;> (try simp only [within, Classical.not_not] at hb) <;> try simp only [go_sem]) | refine And.intro (by first | exact ⟨⟩ | omega | (simp only [I64]; omega)) ?_ | ((with_reducible first | apply vp (c108 _ _ _)); focus (refine ⟨rfl, ?_⟩; first | exact .inl ⟨rfl, rfl⟩ | simp only [go_sem, AV.pureL, AV.pure, hq] | (refine .inr ⟨rfl, ?_⟩; simp only [go_sem, AV.pureL, AV.pure, hq]))) | (simp only [go_sem])))
theorem c56 (l : List Int) (n : Int) : PC Tryd.prog 56 [lN l, .int .i64 n] (.bool (decide (n ∈ l))) := by
  refine PC.body Tryd.func56 (by kernel_rfl) rfl (by simp [Tryd.f56]) rfl ?_
  simp only [Tryd.f56]
  intro hlen
  simp only [go_sem, List.length_map, and_true, true_and] at hlen
  refine CV.run ?_
  (simp only [go_sem])
  refine vc_for (fun j => ⟨[(5, .int .i64 j), (4, .bool false), (0, lN l), (1, .int .i64 n)], []⟩) l.length (fun j => ∀ i, i < j → l[i]? ≠ some n) (by exact wk_any (by simp only [go_sem, Int.natCast_add, cn, Int.cast_ofNat_Int, hq])) (fun i h => by omega) ?_
  intro j hj hx
  rcases Nat.lt_or_ge j l.length with hlt | hge
  · obtain ⟨a, ha⟩ := get_of hlt
    have hlt' : (j : Int) < l.length := by omega
    (repeat' (first | ((with_reducible first | apply sg | apply si | apply sq | apply sd) <;> intro hb <;> (try rw [hb]) <;> (try simp only [bq, bz, dtrue, dfalse] at hb) <;> (try simp only [within, Classical.not_not] at hb) <;> try simp only [go_sem]) | refine And.intro (by first | exact ⟨⟩ | omega | (simp only [I64]; omega)) ?_ | (simp only [go_sem, hlt', ha, encN])))
    · have := List.mem_of_getElem? ha
      subst hb
      simp [this]
    · refine ⟨by exact wk_any (by simp only [go_sem, Int.natCast_add, cn, Int.cast_ofNat_Int, hq]), fun i hi => ?_⟩
      rcases Nat.lt_or_ge i j with h | h
      · exact hx i h
      · have : i = j := by omega
        subst this
        simp [ha, hb]
  · have hge' : ¬ (j : Int) < l.length := by omega
    (repeat' (first | ((with_reducible first | apply sg | apply si | apply sq | apply sd) <;> intro hb <;> (try rw [hb]) <;> (try simp only [bq, bz, dtrue, dfalse] at hb) <;> (try simp only [within, Classical.not_not] at hb) <;> try simp only [go_sem]) | refine And.intro (by first | exact ⟨⟩ | omega | (simp only [I64]; omega)) ?_ | (simp only [go_sem, hge'])))
    have : ¬ n ∈ l := fun hm => by
      obtain ⟨i, hi⟩ := List.mem_iff_getElem?.1 hm
      exact hx i (by have := (List.getElem?_eq_some_iff.1 hi).1; omega) hi
    simp [this]
theorem c58 (l : List Int) (lo hi : Int) : PC Tryd.prog 58 [lN l, .int .i64 lo, .int .i64 hi] (.bool (decide (rising l lo hi))) := by
  refine PC.body Tryd.func58 (by kernel_rfl) rfl (by simp [Tryd.f58]) rfl ?_
  simp only [Tryd.f58]
  intro hlen
  simp only [go_sem, List.length_map, and_true, true_and] at hlen
  refine CV.run ?_
  (simp only [go_sem])
  refine vc_for (fun j => ⟨[(7, .int .i64 j), (6, .bool false), (0, lN l), (1, .int .i64 lo), (2, .int .i64 hi)], []⟩) l.length (fun j => ∀ i, i < j → risingAt l lo hi i) (by exact wk_any (by simp only [go_sem, Int.natCast_add, cn, Int.cast_ofNat_Int, hq])) (fun i h => by omega) ?_
  intro j hj hx
  rcases Nat.lt_or_ge j l.length with hlt | hge
  · obtain ⟨a, ha⟩ := get_of hlt
    obtain ⟨b, hbb⟩ := get_of (l := l) (j := ((j : Int) - 1).toNat) (by omega)
    have hjb : 0 < j → l[j-1]? = some b := fun h => by rw [← hbb]; congr 1; omega
    have hlt' : (j : Int) < l.length := by omega
    (repeat' (first | ((with_reducible first | apply sg | apply si | apply sq | apply sd) <;> intro hb <;> (try rw [hb]) <;> (try simp only [bq, bz, dtrue, dfalse] at hb) <;> (try simp only [within, Classical.not_not] at hb) <;> try simp only [go_sem]) | refine And.intro (by first | exact ⟨⟩ | omega | (simp only [I64]; omega)) ?_ | (with_reducible rw [vc_draw_eq]; first | (refine CV.draw (id := 4) sF10a_f58_4 mixed rfl (by kernel_rfl) ?_; delta sF10a_f58_4)) | ((with_reducible first | apply vp (c97 _ _ _)); focus (refine ⟨rfl, ?_⟩; first | exact .inl ⟨rfl, rfl⟩ | simp only [go_sem, hlt', ha, hbb, encN, AV.pureL, AV.pure, hq] | (refine .inr ⟨rfl, ?_⟩; simp only [go_sem, hlt', ha, hbb, encN, AV.pureL, AV.pure, hq]))) | ((with_reducible first | apply dp (c97 _ _ _)); focus (refine ⟨rfl, ?_⟩; first | exact ⟨rfl, rfl⟩ | simp only [go_sem, hlt', ha, hbb, encN, AV.pureL, AV.pure, hq])) | ((with_reducible first | apply ds (c97 _ _ _)); focus exact ⟨rfl, rfl⟩) | (simp only [go_sem, hlt', ha, hbb, encN])))
    · exact bf fun h => hb (by obtain ⟨a', h1, h2, _⟩ := h j hlt; rw [ha] at h1; cases h1; exact h2)
    · exact bf fun h => by
        obtain ⟨a', h1, h2, h3⟩ := h j hlt; rw [ha] at h1; cases h1
        obtain ⟨b', h4, h5⟩ := h3 (by omega)
        rw [hjb (by omega)] at h4; cases h4
        omega
    all_goals
      refine ⟨by exact wk_any (by simp only [go_sem, Int.natCast_add, cn, Int.cast_ofNat_Int, hq]), fun i hi => ?_⟩
      rcases Nat.lt_or_ge i j with h | h
      · exact hx i h
      · have : i = j := by omega
        subst this
        exact ⟨a, ha, by assumption, fun h => ⟨b, hjb h, by omega⟩⟩
  · have hge' : ¬ (j : Int) < l.length := by omega
    (repeat' (first | ((with_reducible first | apply sg | apply si | apply sq | apply sd) <;> intro hb <;> (try rw [hb]) <;> (try simp only [bq, bz, dtrue, dfalse] at hb) <;> (try simp only [within, Classical.not_not] at hb) <;> try simp only [go_sem]) | refine And.intro (by first | exact ⟨⟩ | omega | (simp only [I64]; omega)) ?_ | (with_reducible rw [vc_draw_eq]; first | (refine CV.draw (id := 4) sF10a_f58_4 mixed rfl (by kernel_rfl) ?_; delta sF10a_f58_4)) | (simp only [go_sem, hge'])))
    exact bt fun i hi => hx i (by omega)
theorem c27 (a b : List Int) : PC Tryd.prog 27 [lN a, lN b] (.bool (decide (a = b))) := by
  refine PC.body Tryd.func27 (by kernel_rfl) rfl (by simp [Tryd.f27]) rfl ?_
  simp only [Tryd.f27]
  intro hlen
  simp only [go_sem, List.length_map, and_true, true_and] at hlen
  refine CV.run ?_
  (repeat' (first | ((with_reducible first | apply sg | apply si | apply sq | apply sd) <;> intro hb <;> (try rw [hb]) <;> (try simp only [bq, bz, dtrue, dfalse] at hb) <;> (try simp only [within, Classical.not_not] at hb) <;> try simp only [go_sem]) | refine And.intro (by first | exact ⟨⟩ | omega | (simp only [I64]; omega)) ?_ | (with_reducible rw [vc_draw_eq]; first | (refine CV.draw (id := 6) sF10a_f27_6 mixed rfl (by kernel_rfl) ?_; delta sF10a_f27_6)) | (simp only [go_sem])))
  · exact bf fun e => hb (by rw [e])
  have hlen2 : a.length = b.length := by omega
  refine vc_for (fun j => ⟨[(5, .int .i64 j), (4, .bool false), (0, lN a), (1, lN b)], []⟩) a.length (fun j => ∀ i, i < j → a[i]? = b[i]?) (by exact wk_any (by simp only [go_sem, Int.natCast_add, cn, Int.cast_ofNat_Int, hq])) (fun i h => by omega) ?_
  intro j hj hx
  rcases Nat.lt_or_ge j a.length with hlt | hge
  · obtain ⟨x, ha⟩ := get_of hlt
    obtain ⟨y, hbb⟩ := get_of (l := b) (j := j) (by omega)
    have hlt' : (j : Int) < a.length := by omega
    have hlt2 : (j : Int) < b.length := by omega
    (repeat' (first | ((with_reducible first | apply sg | apply si | apply sq | apply sd) <;> intro hb <;> (try rw [hb]) <;> (try simp only [bq, bz, dtrue, dfalse] at hb) <;> (try simp only [within, Classical.not_not] at hb) <;> try simp only [go_sem]) | refine And.intro (by first | exact ⟨⟩ | omega | (simp only [I64]; omega)) ?_ | (with_reducible rw [vc_draw_eq]; first | (refine CV.draw (id := 6) sF10a_f27_6 mixed rfl (by kernel_rfl) ?_; delta sF10a_f27_6)) | (simp only [go_sem, hlt', hlt2, ha, hbb, encN])))
    · exact bf fun e => by rw [e, hbb] at ha; cases ha; exact hb rfl
    · refine ⟨by exact wk_any (by simp only [go_sem, Int.natCast_add, cn, Int.cast_ofNat_Int, hq]), fun i hi => ?_⟩
      rcases Nat.lt_or_ge i j with h | h
      · exact hx i h
      · have : i = j := by omega
        subst this
        rw [ha, hbb, hb]
  · have hge' : ¬ (j : Int) < a.length := by omega
    (repeat' (first | ((with_reducible first | apply sg | apply si | apply sq | apply sd) <;> intro hb <;> (try rw [hb]) <;> (try simp only [bq, bz, dtrue, dfalse] at hb) <;> (try simp only [within, Classical.not_not] at hb) <;> try simp only [go_sem]) | refine And.intro (by first | exact ⟨⟩ | omega | (simp only [I64]; omega)) ?_ | (with_reducible rw [vc_draw_eq]; first | (refine CV.draw (id := 6) sF10a_f27_6 mixed rfl (by kernel_rfl) ?_; delta sF10a_f27_6)) | (simp only [go_sem, hge'])))
    refine bt (List.ext_getElem? fun i => ?_)
    rcases Nat.lt_or_ge i a.length with h | h
    · exact hx i (by omega)
    · rw [List.getElem?_eq_none h, List.getElem?_eq_none (by omega)]
theorem c43 (a b : List Int) : PC Tryd.prog 43 [lN a, lN b] (.bool (decide (earlier a b))) := by
  refine PC.body Tryd.func43 (by kernel_rfl) rfl (by simp [Tryd.f43]) rfl ?_
  simp only [Tryd.f43]
  intro hlen
  simp only [go_sem, List.length_map, and_true, true_and] at hlen
  refine CV.run ?_
  (simp only [go_sem])
  refine vc_for (fun j => ⟨[(5, .int .i64 j), (4, .bool false), (0, lN a), (1, lN b)], []⟩) (min a.length b.length) (fun j => ∀ i, i < j → a[i]? = b[i]?) (by exact wk_any (by simp only [go_sem, Int.natCast_add, cn, Int.cast_ofNat_Int, hq])) (fun i h => by omega) ?_
  intro j hj hx
  have he := earlier_at a b j hx (by omega) (by omega)
  rcases Nat.lt_or_ge j a.length with hlt | hge
  · rcases Nat.lt_or_ge j b.length with hlt2 | hge2
    · obtain ⟨x, ha⟩ := get_of hlt
      obtain ⟨y, hbb⟩ := get_of (l := b) (j := j) (by omega)
      have hlt' : (j : Int) < a.length := by omega
      have hlt2' : (j : Int) < b.length := by omega
      have hd1 : a.drop j = x :: a.drop (j + 1) := by rw [← List.getElem_cons_drop hlt]; rw [List.getElem?_eq_getElem hlt] at ha; cases ha; rfl
      have hd2 : b.drop j = y :: b.drop (j + 1) := by rw [← List.getElem_cons_drop hlt2]; rw [List.getElem?_eq_getElem hlt2] at hbb; cases hbb; rfl
      rw [hd1, hd2, earlier] at he
      (repeat' (first | ((with_reducible first | apply sg | apply si | apply sq | apply sd) <;> intro hb <;> (try rw [hb]) <;> (try simp only [bq, bz, dtrue, dfalse] at hb) <;> (try simp only [within, Classical.not_not] at hb) <;> try simp only [go_sem]) | refine And.intro (by first | exact ⟨⟩ | omega | (simp only [I64]; omega)) ?_ | (with_reducible rw [vc_draw_eq]; first | (refine CV.draw (id := 4) sF10a_f43_4 mixed rfl (by kernel_rfl) ?_; delta sF10a_f43_4) | (refine CV.draw (id := 5) sF10a_f43_5 mixed rfl (by kernel_rfl) ?_; delta sF10a_f43_5)) | (simp only [go_sem, hlt', hlt2', ha, hbb, encN])))
      · rw [if_neg hb] at he
        simp only [he]
      · refine ⟨by exact wk_any (by simp only [go_sem, Int.natCast_add, cn, Int.cast_ofNat_Int, hq]), fun i hi => ?_⟩
        rcases Nat.lt_or_ge i j with h | h
        · exact hx i h
        · have : i = j := by omega
          subst this
          rw [ha, hbb, hb]
    · have hge' : ¬ (j : Int) < b.length := by omega
      have hlt' : (j : Int) < a.length := by omega
      (repeat' (first | ((with_reducible first | apply sg | apply si | apply sq | apply sd) <;> intro hb <;> (try rw [hb]) <;> (try simp only [bq, bz, dtrue, dfalse] at hb) <;> (try simp only [within, Classical.not_not] at hb) <;> try simp only [go_sem]) | refine And.intro (by first | exact ⟨⟩ | omega | (simp only [I64]; omega)) ?_ | (with_reducible rw [vc_draw_eq]; first | (refine CV.draw (id := 4) sF10a_f43_4 mixed rfl (by kernel_rfl) ?_; delta sF10a_f43_4) | (refine CV.draw (id := 5) sF10a_f43_5 mixed rfl (by kernel_rfl) ?_; delta sF10a_f43_5)) | (simp only [go_sem, hlt', hge'])))
      refine bf fun h => ?_
      rw [he, List.drop_eq_nil_of_le hge2] at h
      cases ha : a.drop j <;> rw [ha] at h <;> simp [earlier] at h
  · have hge' : ¬ (j : Int) < a.length := by omega
    (repeat' (first | ((with_reducible first | apply sg | apply si | apply sq | apply sd) <;> intro hb <;> (try rw [hb]) <;> (try simp only [bq, bz, dtrue, dfalse] at hb) <;> (try simp only [within, Classical.not_not] at hb) <;> try simp only [go_sem]) | refine And.intro (by first | exact ⟨⟩ | omega | (simp only [I64]; omega)) ?_ | (with_reducible rw [vc_draw_eq]; first | (refine CV.draw (id := 4) sF10a_f43_4 mixed rfl (by kernel_rfl) ?_; delta sF10a_f43_4) | (refine CV.draw (id := 5) sF10a_f43_5 mixed rfl (by kernel_rfl) ?_; delta sF10a_f43_5)) | (simp only [go_sem, hge'])))
    refine bf fun h => ?_
    rw [he, List.drop_eq_nil_of_le hge] at h
    simp [earlier] at h
end Go.Proofs.YtjlopclpofbgbaaDoor

