/- Contracts of functions of the given program, without a condition beyond those that each theorem states; they lead to the given statement. -/
import Derived.Test.YtoadkchhimojlaaK01k
import Derived.Test.YtoadkchhimojlaaFlC
set_option linter.unusedSimpArgs false
set_option linter.unusedVariables false
set_option maxRecDepth 100000
namespace Go.Proofs.Ytoadkchhimojlaa.W5
open Go Go.Fl
open Classical
theorem mixed : Try.prog.follows .mixedOrders = true := by kernel_rfl
structure Job where
  beat : Int
  low : Int
  high : Int
  pour : Int
  due : Int
  worth : Int
def encJ (j : Job) : List AV := [.int .i64 j.beat, .int .i64 j.low, .int .i64 j.high, .int .i64 j.pour, .int .i64 j.due, .int .i64 j.worth]
theorem pureJ (l : List Job) : pureE (l.map encJ) = True := pureE_map fun _ => rfl
attribute [go_sem] pureJ
abbrev cS (s : List Job) : List AV := [.lst false 6 (s.map encJ)]
abbrev hS (s : List Job) : AV := .agg (cS s)
theorem wf64 {y : Int} : ((Lit.int .i64 y).wf = true) = I64 y := by
  have e1 : IntKind.i64.min = -9223372036854775808 := by decide
  have e2 : IntKind.i64.max = 9223372036854775807 := by decide
  simp [Lit.wf, I64, eq_iff_iff, e1, e2]
theorem e50 : ((50 : Int) = 0) = False := by simp
theorem e10 : ((1 : Int) = 0) = False := by simp
theorem e30 : ((3 : Int) = 0) = False := by simp
attribute [go_sem] e50 e10 e30 wf64 maxLen_eq Option.getD_some Option.getD_none
theorem c22 (n lo hi : Int) : PC Try.prog 22 [.int .i64 n, .int .i64 lo, .int .i64 hi] (.bool (decide (within n lo hi))) := by
  refine PC.body Try.func22 (by kernel_rfl) rfl (by simp [Try.f22]) rfl ?_
  simp only [Try.f22]
  intro hlen
  simp only [go_sem, List.length_map, and_true, true_and] at hlen
  refine CV.run ?_
  (repeat' (first | ((first | with_reducible refine vcG_split ?_ ?_ | with_reducible refine vcIf_split ?_ ?_ | with_reducible refine vcQ_split ?_ ?_ | with_reducible refine vcDG_split ?_ ?_) <;> intro hb <;> (try rw [hb]) <;> (try simp only [Bool.and_eq_true, Bool.or_eq_true, dtrue, dfalse, Bool.not_eq_true', Bool.not_eq_false', Bool.and_eq_false_iff, Bool.or_eq_false_iff, Bool.not_true, Bool.not_false] at hb) <;> (try simp only [within] at hb) <;> try (simp only [go_sem])) | refine And.intro (by (first | exact trivial | (simp only [I64]; omega) | omega)) ?_ | (with_reducible refine vcM_some fun mg => ?_) | (simp only [go_sem])))
  · simp [within, hb]
  · exact bf fun h => absurd h.1 (by omega)
theorem c40 (n lo hi : Int) : PC Try.prog 40 [.int .i64 n, .int .i64 lo, .int .i64 hi] (.bool (decide (within n lo hi))) := by
  refine PC.body Try.func40 (by kernel_rfl) rfl (by simp [Try.f40]) rfl ?_
  simp only [Try.f40]
  intro hlen
  simp only [go_sem, List.length_map, and_true, true_and] at hlen
  refine CV.run ?_
  (repeat' (first | ((first | with_reducible refine vcG_split ?_ ?_ | with_reducible refine vcIf_split ?_ ?_ | with_reducible refine vcQ_split ?_ ?_ | with_reducible refine vcDG_split ?_ ?_) <;> intro hb <;> (try rw [hb]) <;> (try simp only [Bool.and_eq_true, Bool.or_eq_true, dtrue, dfalse, Bool.not_eq_true', Bool.not_eq_false', Bool.and_eq_false_iff, Bool.or_eq_false_iff, Bool.not_true, Bool.not_false] at hb) <;> (try simp only [within] at hb) <;> try (simp only [go_sem])) | refine And.intro (by (first | exact trivial | (simp only [I64]; omega) | omega)) ?_ | (first | (refine vcP_pure (c22 _ _ _) rfl ?_ ?_ ?_; (focus (first | rfl | ((simp only [go_sem, AV.pureL, AV.pure, pureL_mapI, Bool.and_self]) <;> fail))); (focus (first | ((simp only [go_sem]) <;> fail) | rfl))) | (refine dCallP_pure (c22 _ _ _) rfl ?_ ?_ ?_; (focus (first | rfl | ((simp only [go_sem, AV.pureL, AV.pure, pureL_mapI, Bool.and_self]) <;> fail))); (focus (first | ((simp only [go_sem]) <;> fail) | rfl))) | (refine dCallC_pure (c22 _ _ _) rfl ?_ ?_ ?_; (focus (first | rfl | ((simp only [go_sem, AV.pureL, AV.pure, pureL_mapI, Bool.and_self]) <;> fail))); (focus (first | ((simp only [go_sem]) <;> fail) | rfl))) | refine dCallC_safe (c22 _ _ _) rfl rfl (by (simp only [go_sem])) ?_ | refine vcP_safe (c22 _ _ _) rfl rfl (by (simp only [go_sem])) ?_ | refine dCallP_safe (c22 _ _ _) rfl rfl ?_) | (with_reducible refine vcM_some fun mg => ?_) | (simp only [go_sem])))
theorem c100 (n lo hi : Int) : PC Try.prog 100 [.int .i64 n, .int .i64 lo, .int .i64 hi] (.bool (decide (within n lo hi))) := by
  refine PC.body Try.func100 (by kernel_rfl) rfl (by simp [Try.f100]) rfl ?_
  simp only [Try.f100]
  intro hlen
  simp only [go_sem, List.length_map, and_true, true_and] at hlen
  refine CV.run ?_
  (repeat' (first | ((first | with_reducible refine vcG_split ?_ ?_ | with_reducible refine vcIf_split ?_ ?_ | with_reducible refine vcQ_split ?_ ?_ | with_reducible refine vcDG_split ?_ ?_) <;> intro hb <;> (try rw [hb]) <;> (try simp only [Bool.and_eq_true, Bool.or_eq_true, dtrue, dfalse, Bool.not_eq_true', Bool.not_eq_false', Bool.and_eq_false_iff, Bool.or_eq_false_iff, Bool.not_true, Bool.not_false] at hb) <;> (try simp only [within] at hb) <;> try (simp only [go_sem])) | refine And.intro (by (first | exact trivial | (simp only [I64]; omega) | omega)) ?_ | (with_reducible refine vcM_some fun mg => ?_) | (simp only [go_sem])))
  · simp [within, hb]
  · exact bf fun h => absurd h.1 (by omega)
theorem c99 (n lo : Int) : PC Try.prog 99 [.int .i64 n, .int .i64 lo] (.bool (decide (within n lo 9))) := by
  refine PC.body Try.func99 (by kernel_rfl) rfl (by simp [Try.f99]) rfl ?_
  simp only [Try.f99]
  intro hlen
  simp only [go_sem, List.length_map, and_true, true_and] at hlen
  refine CV.run ?_
  (repeat' (first | ((first | with_reducible refine vcG_split ?_ ?_ | with_reducible refine vcIf_split ?_ ?_ | with_reducible refine vcQ_split ?_ ?_ | with_reducible refine vcDG_split ?_ ?_) <;> intro hb <;> (try rw [hb]) <;> (try simp only [Bool.and_eq_true, Bool.or_eq_true, dtrue, dfalse, Bool.not_eq_true', Bool.not_eq_false', Bool.and_eq_false_iff, Bool.or_eq_false_iff, Bool.not_true, Bool.not_false] at hb) <;> (try simp only [within] at hb) <;> try (simp only [go_sem])) | refine And.intro (by (first | exact trivial | (simp only [I64]; omega) | omega)) ?_ | (first | (refine vcP_pure (c100 _ _ _) rfl ?_ ?_ ?_; (focus (first | rfl | ((simp only [go_sem, AV.pureL, AV.pure, pureL_mapI, Bool.and_self]) <;> fail))); (focus (first | ((simp only [go_sem]) <;> fail) | rfl))) | (refine dCallP_pure (c100 _ _ _) rfl ?_ ?_ ?_; (focus (first | rfl | ((simp only [go_sem, AV.pureL, AV.pure, pureL_mapI, Bool.and_self]) <;> fail))); (focus (first | ((simp only [go_sem]) <;> fail) | rfl))) | (refine dCallC_pure (c100 _ _ _) rfl ?_ ?_ ?_; (focus (first | rfl | ((simp only [go_sem, AV.pureL, AV.pure, pureL_mapI, Bool.and_self]) <;> fail))); (focus (first | ((simp only [go_sem]) <;> fail) | rfl))) | refine dCallC_safe (c100 _ _ _) rfl rfl (by (simp only [go_sem])) ?_ | refine vcP_safe (c100 _ _ _) rfl rfl (by (simp only [go_sem])) ?_ | refine dCallP_safe (c100 _ _ _) rfl rfl ?_) | (with_reducible refine vcM_some fun mg => ?_) | (simp only [go_sem])))
theorem c41 (a b n : Int) : PC Try.prog 41 [.agg [.int .i64 a, .int .i64 b], .int .i64 n] (.bool (decide (within b 0 n ∧ within a 0 b))) := by
  refine PC.body Try.func41 (by kernel_rfl) rfl (by simp [Try.f41]) rfl ?_
  simp only [Try.f41]
  intro hlen
  simp only [go_sem, List.length_map, and_true, true_and] at hlen
  refine CV.run ?_
  (repeat' (first | ((first | with_reducible refine vcG_split ?_ ?_ | with_reducible refine vcIf_split ?_ ?_ | with_reducible refine vcQ_split ?_ ?_ | with_reducible refine vcDG_split ?_ ?_) <;> intro hb <;> (try rw [hb]) <;> (try simp only [Bool.and_eq_true, Bool.or_eq_true, dtrue, dfalse, Bool.not_eq_true', Bool.not_eq_false', Bool.and_eq_false_iff, Bool.or_eq_false_iff, Bool.not_true, Bool.not_false] at hb) <;> (try simp only [within] at hb) <;> try (simp only [go_sem])) | refine And.intro (by (first | exact trivial | (simp only [I64]; omega) | omega)) ?_ | (first | (refine vcP_pure (c22 _ _ _) rfl ?_ ?_ ?_; (focus (first | rfl | ((simp only [go_sem, AV.pureL, AV.pure, pureL_mapI, Bool.and_self]) <;> fail))); (focus (first | ((simp only [go_sem]) <;> fail) | rfl))) | (refine dCallP_pure (c22 _ _ _) rfl ?_ ?_ ?_; (focus (first | rfl | ((simp only [go_sem, AV.pureL, AV.pure, pureL_mapI, Bool.and_self]) <;> fail))); (focus (first | ((simp only [go_sem]) <;> fail) | rfl))) | (refine dCallC_pure (c22 _ _ _) rfl ?_ ?_ ?_; (focus (first | rfl | ((simp only [go_sem, AV.pureL, AV.pure, pureL_mapI, Bool.and_self]) <;> fail))); (focus (first | ((simp only [go_sem]) <;> fail) | rfl))) | refine dCallC_safe (c22 _ _ _) rfl rfl (by (simp only [go_sem])) ?_ | refine vcP_safe (c22 _ _ _) rfl rfl (by (simp only [go_sem])) ?_ | refine dCallP_safe (c22 _ _ _) rfl rfl ?_) | (with_reducible refine vcM_some fun mg => ?_) | (simp only [go_sem])))
  · exact bd (by unfold within; omega)
  · exact bf fun h => absurd h.1 (by unfold within; omega)
theorem c42 (s : List Job) (n : Int) : PC Try.prog 42 [hS s, .int .i64 n] (.bool (decide (within n 0 (s.length - 1)))) := by
  refine PC.body Try.func42 (by kernel_rfl) rfl (by simp [Try.f42]) rfl ?_
  simp only [Try.f42]
  intro hlen
  simp only [go_sem, List.length_map, and_true, true_and] at hlen
  refine CV.run ?_
  (repeat' (first | ((first | with_reducible refine vcG_split ?_ ?_ | with_reducible refine vcIf_split ?_ ?_ | with_reducible refine vcQ_split ?_ ?_ | with_reducible refine vcDG_split ?_ ?_) <;> intro hb <;> (try rw [hb]) <;> (try simp only [Bool.and_eq_true, Bool.or_eq_true, dtrue, dfalse, Bool.not_eq_true', Bool.not_eq_false', Bool.and_eq_false_iff, Bool.or_eq_false_iff, Bool.not_true, Bool.not_false] at hb) <;> (try simp only [within] at hb) <;> try (simp only [go_sem])) | refine And.intro (by (first | exact trivial | (simp only [I64]; omega) | omega)) ?_ | (first | (refine vcP_pure (c40 _ _ _) rfl ?_ ?_ ?_; (focus (first | rfl | ((simp only [go_sem, AV.pureL, AV.pure, pureL_mapI, Bool.and_self]) <;> fail))); (focus (first | ((simp only [go_sem]) <;> fail) | rfl))) | (refine dCallP_pure (c40 _ _ _) rfl ?_ ?_ ?_; (focus (first | rfl | ((simp only [go_sem, AV.pureL, AV.pure, pureL_mapI, Bool.and_self]) <;> fail))); (focus (first | ((simp only [go_sem]) <;> fail) | rfl))) | (refine dCallC_pure (c40 _ _ _) rfl ?_ ?_ ?_; (focus (first | rfl | ((simp only [go_sem, AV.pureL, AV.pure, pureL_mapI, Bool.and_self]) <;> fail))); (focus (first | ((simp only [go_sem]) <;> fail) | rfl))) | refine dCallC_safe (c40 _ _ _) rfl rfl (by (simp only [go_sem])) ?_ | refine vcP_safe (c40 _ _ _) rfl rfl (by (simp only [go_sem])) ?_ | refine dCallP_safe (c40 _ _ _) rfl rfl ?_) | (with_reducible refine vcM_some fun mg => ?_) | (simp only [go_sem])))
theorem c43 (l : List Int) (n : Int) : PC Try.prog 43 [lN l, .int .i64 n] (.bool (decide (n ∈ l))) := by
  refine PC.body Try.func43 (by kernel_rfl) rfl (by simp [Try.f43]) rfl ?_
  simp only [Try.f43]
  intro hlen
  simp only [go_sem, List.length_map, and_true, true_and] at hlen
  refine CV.run ?_
  (simp only [go_sem])
  refine vc_for (fun j => ⟨[(5, .int .i64 j), (4, .bool false), (0, lN l), (1, .int .i64 n)], []⟩) l.length (fun j => ∀ i, i < j → l[i]? ≠ some n) (by (first | exact wk_same (by (simp only [go_sem, Int.natCast_add, Int.natCast_one, Int.natCast_zero, Int.cast_ofNat_Int])) | exact wk_drop (by (simp only [go_sem, Int.natCast_add, Int.natCast_one, Int.natCast_zero, Int.cast_ofNat_Int])) (by (simp only [go_sem, Int.natCast_add, Int.natCast_one, Int.natCast_zero, Int.cast_ofNat_Int])) (by (simp only [go_sem, Int.natCast_add, Int.natCast_one, Int.natCast_zero, Int.cast_ofNat_Int])) (by (simp only [go_sem, Int.natCast_add, Int.natCast_one, Int.natCast_zero, Int.cast_ofNat_Int])) (by (simp only [go_sem, Int.natCast_add, Int.natCast_one, Int.natCast_zero, Int.cast_ofNat_Int])))) (fun i h => by omega) ?_
  intro j hj hx
  rcases Nat.lt_or_ge j l.length with hlt | hge
  · obtain ⟨a, ha⟩ := get_of hlt
    have hlt' : (j : Int) < l.length := by omega
    (repeat' (first | ((first | with_reducible refine vcG_split ?_ ?_ | with_reducible refine vcIf_split ?_ ?_ | with_reducible refine vcQ_split ?_ ?_ | with_reducible refine vcDG_split ?_ ?_) <;> intro hb <;> (try rw [hb]) <;> (try simp only [Bool.and_eq_true, Bool.or_eq_true, dtrue, dfalse, Bool.not_eq_true', Bool.not_eq_false', Bool.and_eq_false_iff, Bool.or_eq_false_iff, Bool.not_true, Bool.not_false] at hb) <;> (try simp only [within] at hb) <;> try (simp only [go_sem, hlt', ha, encN])) | refine And.intro (by (first | exact trivial | (simp only [I64]; omega) | omega)) ?_ | (with_reducible refine vcM_some fun mg => ?_) | (simp only [go_sem, hlt', ha, encN])))
    · have := List.mem_of_getElem? ha
      subst hb
      simp [this]
    · refine ⟨by (first | exact wk_same (by (simp only [go_sem, Int.natCast_add, Int.natCast_one, Int.natCast_zero, Int.cast_ofNat_Int])) | exact wk_drop (by (simp only [go_sem, Int.natCast_add, Int.natCast_one, Int.natCast_zero, Int.cast_ofNat_Int])) (by (simp only [go_sem, Int.natCast_add, Int.natCast_one, Int.natCast_zero, Int.cast_ofNat_Int])) (by (simp only [go_sem, Int.natCast_add, Int.natCast_one, Int.natCast_zero, Int.cast_ofNat_Int])) (by (simp only [go_sem, Int.natCast_add, Int.natCast_one, Int.natCast_zero, Int.cast_ofNat_Int])) (by (simp only [go_sem, Int.natCast_add, Int.natCast_one, Int.natCast_zero, Int.cast_ofNat_Int]))), fun i hi => ?_⟩
      rcases Nat.lt_or_ge i j with h | h
      · exact hx i h
      · have : i = j := by omega
        subst this
        simp [ha, hb]
  · have hge' : ¬ (j : Int) < l.length := by omega
    (repeat' (first | ((first | with_reducible refine vcG_split ?_ ?_ | with_reducible refine vcIf_split ?_ ?_ | with_reducible refine vcQ_split ?_ ?_ | with_reducible refine vcDG_split ?_ ?_) <;> intro hb <;> (try rw [hb]) <;> (try simp only [Bool.and_eq_true, Bool.or_eq_true, dtrue, dfalse, Bool.not_eq_true', Bool.not_eq_false', Bool.and_eq_false_iff, Bool.or_eq_false_iff, Bool.not_true, Bool.not_false] at hb) <;> (try simp only [within] at hb) <;> try (simp only [go_sem, hge'])) | refine And.intro (by (first | exact trivial | (simp only [I64]; omega) | omega)) ?_ | (with_reducible refine vcM_some fun mg => ?_) | (simp only [go_sem, hge'])))
    have : ¬ n ∈ l := fun hm => by
      obtain ⟨i, hi⟩ := List.mem_iff_getElem?.1 hm
      exact hx i (by have := (List.getElem?_eq_some_iff.1 hi).1; omega) hi
    simp [this]
theorem c45 (a b : List Int) : PC Try.prog 45 [lN a, lN b] (.bool (decide (a = b))) := by
  refine PC.body Try.func45 (by kernel_rfl) rfl (by simp [Try.f45]) rfl ?_
  simp only [Try.f45]
  intro hlen
  simp only [go_sem, List.length_map, and_true, true_and] at hlen
  refine CV.run ?_
  (repeat' (first | ((first | with_reducible refine vcG_split ?_ ?_ | with_reducible refine vcIf_split ?_ ?_ | with_reducible refine vcQ_split ?_ ?_ | with_reducible refine vcDG_split ?_ ?_) <;> intro hb <;> (try rw [hb]) <;> (try simp only [Bool.and_eq_true, Bool.or_eq_true, dtrue, dfalse, Bool.not_eq_true', Bool.not_eq_false', Bool.and_eq_false_iff, Bool.or_eq_false_iff, Bool.not_true, Bool.not_false] at hb) <;> (try simp only [within] at hb) <;> try (simp only [go_sem])) | refine And.intro (by (first | exact trivial | (simp only [I64]; omega) | omega)) ?_ | (with_reducible rw [vc_draw_eq]; first | refine CV.draw (id := 6) [(0, 0), (0, 0), (0, 0), (0, 0), (0, 0), (0, 0), (0, 0), (0, 0), (0, 0)] mixed rfl (by kernel_rfl) ?_) | (with_reducible refine vcM_some fun mg => ?_) | (simp only [go_sem])))
  · exact bf fun e => hb (by rw [e])
  have hlen2 : a.length = b.length := by omega
  refine vc_for (fun j => ⟨[(5, .int .i64 j), (4, .bool false), (0, lN a), (1, lN b)], []⟩) a.length (fun j => ∀ i, i < j → a[i]? = b[i]?) (by (first | exact wk_same (by (simp only [go_sem, Int.natCast_add, Int.natCast_one, Int.natCast_zero, Int.cast_ofNat_Int])) | exact wk_drop (by (simp only [go_sem, Int.natCast_add, Int.natCast_one, Int.natCast_zero, Int.cast_ofNat_Int])) (by (simp only [go_sem, Int.natCast_add, Int.natCast_one, Int.natCast_zero, Int.cast_ofNat_Int])) (by (simp only [go_sem, Int.natCast_add, Int.natCast_one, Int.natCast_zero, Int.cast_ofNat_Int])) (by (simp only [go_sem, Int.natCast_add, Int.natCast_one, Int.natCast_zero, Int.cast_ofNat_Int])) (by (simp only [go_sem, Int.natCast_add, Int.natCast_one, Int.natCast_zero, Int.cast_ofNat_Int])))) (fun i h => by omega) ?_
  intro j hj hx
  rcases Nat.lt_or_ge j a.length with hlt | hge
  · obtain ⟨x, ha⟩ := get_of hlt
    obtain ⟨y, hbb⟩ := get_of (l := b) (j := j) (by omega)
    have hlt' : (j : Int) < a.length := by omega
    have hlt2 : (j : Int) < b.length := by omega
    (repeat' (first | ((first | with_reducible refine vcG_split ?_ ?_ | with_reducible refine vcIf_split ?_ ?_ | with_reducible refine vcQ_split ?_ ?_ | with_reducible refine vcDG_split ?_ ?_) <;> intro hb <;> (try rw [hb]) <;> (try simp only [Bool.and_eq_true, Bool.or_eq_true, dtrue, dfalse, Bool.not_eq_true', Bool.not_eq_false', Bool.and_eq_false_iff, Bool.or_eq_false_iff, Bool.not_true, Bool.not_false] at hb) <;> (try simp only [within] at hb) <;> try (simp only [go_sem, hlt', hlt2, ha, hbb, encN])) | refine And.intro (by (first | exact trivial | (simp only [I64]; omega) | omega)) ?_ | (with_reducible rw [vc_draw_eq]; first | refine CV.draw (id := 6) [(0, 0), (0, 0), (0, 0), (0, 0), (0, 0), (0, 0), (0, 0), (0, 0), (0, 0)] mixed rfl (by kernel_rfl) ?_) | (with_reducible refine vcM_some fun mg => ?_) | (simp only [go_sem, hlt', hlt2, ha, hbb, encN])))
    · exact bf fun e => by rw [e, hbb] at ha; cases ha; exact hb rfl
    · refine ⟨by (first | exact wk_same (by (simp only [go_sem, Int.natCast_add, Int.natCast_one, Int.natCast_zero, Int.cast_ofNat_Int])) | exact wk_drop (by (simp only [go_sem, Int.natCast_add, Int.natCast_one, Int.natCast_zero, Int.cast_ofNat_Int])) (by (simp only [go_sem, Int.natCast_add, Int.natCast_one, Int.natCast_zero, Int.cast_ofNat_Int])) (by (simp only [go_sem, Int.natCast_add, Int.natCast_one, Int.natCast_zero, Int.cast_ofNat_Int])) (by (simp only [go_sem, Int.natCast_add, Int.natCast_one, Int.natCast_zero, Int.cast_ofNat_Int])) (by (simp only [go_sem, Int.natCast_add, Int.natCast_one, Int.natCast_zero, Int.cast_ofNat_Int]))), fun i hi => ?_⟩
      rcases Nat.lt_or_ge i j with h | h
      · exact hx i h
      · have : i = j := by omega
        subst this
        rw [ha, hbb, hb]
  · have hge' : ¬ (j : Int) < a.length := by omega
    (repeat' (first | ((first | with_reducible refine vcG_split ?_ ?_ | with_reducible refine vcIf_split ?_ ?_ | with_reducible refine vcQ_split ?_ ?_ | with_reducible refine vcDG_split ?_ ?_) <;> intro hb <;> (try rw [hb]) <;> (try simp only [Bool.and_eq_true, Bool.or_eq_true, dtrue, dfalse, Bool.not_eq_true', Bool.not_eq_false', Bool.and_eq_false_iff, Bool.or_eq_false_iff, Bool.not_true, Bool.not_false] at hb) <;> (try simp only [within] at hb) <;> try (simp only [go_sem, hge'])) | refine And.intro (by (first | exact trivial | (simp only [I64]; omega) | omega)) ?_ | (with_reducible rw [vc_draw_eq]; first | refine CV.draw (id := 6) [(0, 0), (0, 0), (0, 0), (0, 0), (0, 0), (0, 0), (0, 0), (0, 0), (0, 0)] mixed rfl (by kernel_rfl) ?_) | (with_reducible refine vcM_some fun mg => ?_) | (simp only [go_sem, hge'])))
    refine bt (List.ext_getElem? fun i => ?_)
    rcases Nat.lt_or_ge i a.length with h | h
    · exact hx i (by omega)
    · rw [List.getElem?_eq_none h, List.getElem?_eq_none (by omega)]
def okJob (j : Job) : Prop := within j.beat 1 9 ∧ within j.pour 1 9 ∧ within j.high 0 9 ∧ within j.low 0 j.high ∧ within j.due 0 99 ∧ within j.worth 0 99
def valid (s : List Job) : Prop := s.length ≤ 6 ∧ ∀ j, j ∈ s → okJob j
noncomputable def check (s : List Job) : Int := if valid s then 0 else 50
theorem ck0 {s : List Job} (h : valid s) : AV.int .i64 0 = .int .i64 (check s) := by simp [check, h]
theorem ckE {s : List Job} (h : ¬ valid s) : AV.int .i64 50 = .int .i64 (check s) := by simp [check, h]
theorem check0 {s : List Job} : (check s = 0) = valid s := by unfold check; split <;> simp_all
theorem c16 (s : List Job) : PC Try.prog 16 [hS s] (.int .i64 (check s)) := by
  refine PC.body Try.func16 (by kernel_rfl) rfl (by simp [Try.f16]) rfl ?_
  simp only [Try.f16]
  intro hlen
  simp only [go_sem, List.length_map, and_true, true_and] at hlen
  refine CV.run ?_
  (repeat' (first | ((first | with_reducible refine vcG_split ?_ ?_ | with_reducible refine vcIf_split ?_ ?_ | with_reducible refine vcQ_split ?_ ?_ | with_reducible refine vcDG_split ?_ ?_) <;> intro hb <;> (try rw [hb]) <;> (try simp only [Bool.and_eq_true, Bool.or_eq_true, dtrue, dfalse, Bool.not_eq_true', Bool.not_eq_false', Bool.and_eq_false_iff, Bool.or_eq_false_iff, Bool.not_true, Bool.not_false] at hb) <;> (try simp only [within] at hb) <;> try (simp only [go_sem])) | refine And.intro (by (first | exact trivial | (simp only [I64]; omega) | omega)) ?_ | (with_reducible refine vcM_some fun mg => ?_) | (simp only [go_sem])))
  · exact ckE fun h => by have := h.1; omega
  refine vc_for (fun j => ⟨[(3, .int .i64 j), (2, .int .i64 0), (1, .lp 0 0)], [.box 48 (cS s) false]⟩) s.length (fun j => allTo (fun _ m => okJob m) s j) (by (first | exact wk_same (by (simp only [go_sem, Int.natCast_add, Int.natCast_one, Int.natCast_zero, Int.cast_ofNat_Int])) | exact wk_drop (by (simp only [go_sem, Int.natCast_add, Int.natCast_one, Int.natCast_zero, Int.cast_ofNat_Int])) (by (simp only [go_sem, Int.natCast_add, Int.natCast_one, Int.natCast_zero, Int.cast_ofNat_Int])) (by (simp only [go_sem, Int.natCast_add, Int.natCast_one, Int.natCast_zero, Int.cast_ofNat_Int])) (by (simp only [go_sem, Int.natCast_add, Int.natCast_one, Int.natCast_zero, Int.cast_ofNat_Int])) (by (simp only [go_sem, Int.natCast_add, Int.natCast_one, Int.natCast_zero, Int.cast_ofNat_Int])))) .zero ?_
  intro k hk hy
  rcases Nat.lt_or_ge k s.length with hlt | hge2
  · obtain ⟨m, hm⟩ := get_of hlt
    have hlt' : (k : Int) < s.length := by omega
    (repeat' (first | ((first | with_reducible refine vcG_split ?_ ?_ | with_reducible refine vcIf_split ?_ ?_ | with_reducible refine vcQ_split ?_ ?_ | with_reducible refine vcDG_split ?_ ?_) <;> intro hb <;> (try rw [hb]) <;> (try simp only [Bool.and_eq_true, Bool.or_eq_true, dtrue, dfalse, Bool.not_eq_true', Bool.not_eq_false', Bool.and_eq_false_iff, Bool.or_eq_false_iff, Bool.not_true, Bool.not_false] at hb) <;> (try simp only [within] at hb) <;> try (simp only [go_sem, hlt', hm, encJ])) | refine And.intro (by (first | exact trivial | (simp only [I64]; omega) | omega)) ?_ | (first | (refine vcP_pure (c40 _ _ _) rfl ?_ ?_ ?_; (focus (first | rfl | ((simp only [go_sem, hlt', hm, encJ, AV.pureL, AV.pure, pureL_mapI, Bool.and_self]) <;> fail))); (focus (first | ((simp only [go_sem, hlt', hm, encJ]) <;> fail) | rfl))) | (refine dCallP_pure (c40 _ _ _) rfl ?_ ?_ ?_; (focus (first | rfl | ((simp only [go_sem, hlt', hm, encJ, AV.pureL, AV.pure, pureL_mapI, Bool.and_self]) <;> fail))); (focus (first | ((simp only [go_sem, hlt', hm, encJ]) <;> fail) | rfl))) | (refine dCallC_pure (c40 _ _ _) rfl ?_ ?_ ?_; (focus (first | rfl | ((simp only [go_sem, hlt', hm, encJ, AV.pureL, AV.pure, pureL_mapI, Bool.and_self]) <;> fail))); (focus (first | ((simp only [go_sem, hlt', hm, encJ]) <;> fail) | rfl))) | refine dCallC_safe (c40 _ _ _) rfl rfl (by (simp only [go_sem, hlt', hm, encJ])) ?_ | refine vcP_safe (c40 _ _ _) rfl rfl (by (simp only [go_sem, hlt', hm, encJ])) ?_ | refine dCallP_safe (c40 _ _ _) rfl rfl ?_ | (refine vcP_pure (c41 _ _ _) rfl ?_ ?_ ?_; (focus (first | rfl | ((simp only [go_sem, hlt', hm, encJ, AV.pureL, AV.pure, pureL_mapI, Bool.and_self]) <;> fail))); (focus (first | ((simp only [go_sem, hlt', hm, encJ]) <;> fail) | rfl))) | (refine dCallP_pure (c41 _ _ _) rfl ?_ ?_ ?_; (focus (first | rfl | ((simp only [go_sem, hlt', hm, encJ, AV.pureL, AV.pure, pureL_mapI, Bool.and_self]) <;> fail))); (focus (first | ((simp only [go_sem, hlt', hm, encJ]) <;> fail) | rfl))) | (refine dCallC_pure (c41 _ _ _) rfl ?_ ?_ ?_; (focus (first | rfl | ((simp only [go_sem, hlt', hm, encJ, AV.pureL, AV.pure, pureL_mapI, Bool.and_self]) <;> fail))); (focus (first | ((simp only [go_sem, hlt', hm, encJ]) <;> fail) | rfl))) | refine dCallC_safe (c41 _ _ _) rfl rfl (by (simp only [go_sem, hlt', hm, encJ])) ?_ | refine vcP_safe (c41 _ _ _) rfl rfl (by (simp only [go_sem, hlt', hm, encJ])) ?_ | refine dCallP_safe (c41 _ _ _) rfl rfl ?_) | (with_reducible refine vcM_some fun mg => ?_) | (simp only [go_sem, hlt', hm, encJ])))
    all_goals first
      | exact ckE (s := s) fun h => absurd (h.2 m (List.mem_of_getElem? hm)) (by unfold okJob within; omega)
      | exact ⟨by (first | exact wk_same (by (simp only [go_sem, Int.natCast_add, Int.natCast_one, Int.natCast_zero, Int.cast_ofNat_Int])) | exact wk_drop (by (simp only [go_sem, Int.natCast_add, Int.natCast_one, Int.natCast_zero, Int.cast_ofNat_Int])) (by (simp only [go_sem, Int.natCast_add, Int.natCast_one, Int.natCast_zero, Int.cast_ofNat_Int])) (by (simp only [go_sem, Int.natCast_add, Int.natCast_one, Int.natCast_zero, Int.cast_ofNat_Int])) (by (simp only [go_sem, Int.natCast_add, Int.natCast_one, Int.natCast_zero, Int.cast_ofNat_Int])) (by (simp only [go_sem, Int.natCast_add, Int.natCast_one, Int.natCast_zero, Int.cast_ofNat_Int]))), hy.succ hm (by unfold okJob within; omega)⟩
  · have hge2' : ¬ (k : Int) < s.length := by omega
    (repeat' (first | ((first | with_reducible refine vcG_split ?_ ?_ | with_reducible refine vcIf_split ?_ ?_ | with_reducible refine vcQ_split ?_ ?_ | with_reducible refine vcDG_split ?_ ?_) <;> intro hb <;> (try rw [hb]) <;> (try simp only [Bool.and_eq_true, Bool.or_eq_true, dtrue, dfalse, Bool.not_eq_true', Bool.not_eq_false', Bool.and_eq_false_iff, Bool.or_eq_false_iff, Bool.not_true, Bool.not_false] at hb) <;> (try simp only [within] at hb) <;> try (simp only [go_sem, hge2'])) | refine And.intro (by (first | exact trivial | (simp only [I64]; omega) | omega)) ?_ | (with_reducible refine vcM_some fun mg => ?_) | (simp only [go_sem, hge2'])))
    exact ck0 ⟨by omega, hy.mem hge2⟩
theorem c75 (s : List Job) : PC Try.prog 75 [hS s] (.int .i64 (check s)) := by
  refine PC.body Try.func75 (by kernel_rfl) rfl (by simp [Try.f75]) rfl ?_
  simp only [Try.f75]
  intro hlen
  simp only [go_sem, List.length_map, and_true, true_and] at hlen
  refine CV.run ?_
  (repeat' (first | ((first | with_reducible refine vcG_split ?_ ?_ | with_reducible refine vcIf_split ?_ ?_ | with_reducible refine vcQ_split ?_ ?_ | with_reducible refine vcDG_split ?_ ?_) <;> intro hb <;> (try rw [hb]) <;> (try simp only [Bool.and_eq_true, Bool.or_eq_true, dtrue, dfalse, Bool.not_eq_true', Bool.not_eq_false', Bool.and_eq_false_iff, Bool.or_eq_false_iff, Bool.not_true, Bool.not_false] at hb) <;> (try simp only [within] at hb) <;> try (simp only [go_sem])) | refine And.intro (by (first | exact trivial | (simp only [I64]; omega) | omega)) ?_ | (with_reducible refine vcM_some fun mg => ?_) | (simp only [go_sem])))
  · exact ckE fun h => by have := h.1; omega
  refine vc_for (fun j => ⟨[(13, .int .i64 j), (12, .int .i64 s.length), (11, .lst false 6 (s.map encJ)), (2, .int .i64 0), (3, .fn 99 [])], [.box 48 (cS s) false]⟩) s.length (fun j => allTo (fun _ m => okJob m) s j) (by (first | exact wk_same (by (simp only [go_sem, Int.natCast_add, Int.natCast_one, Int.natCast_zero, Int.cast_ofNat_Int])) | exact wk_drop (by (simp only [go_sem, Int.natCast_add, Int.natCast_one, Int.natCast_zero, Int.cast_ofNat_Int])) (by (simp only [go_sem, Int.natCast_add, Int.natCast_one, Int.natCast_zero, Int.cast_ofNat_Int])) (by (simp only [go_sem, Int.natCast_add, Int.natCast_one, Int.natCast_zero, Int.cast_ofNat_Int])) (by (simp only [go_sem, Int.natCast_add, Int.natCast_one, Int.natCast_zero, Int.cast_ofNat_Int])) (by (simp only [go_sem, Int.natCast_add, Int.natCast_one, Int.natCast_zero, Int.cast_ofNat_Int])))) .zero ?_
  intro k hk hy
  rcases Nat.lt_or_ge k s.length with hlt | hge2
  · obtain ⟨m, hm⟩ := get_of hlt
    have hlt' : (k : Int) < s.length := by omega
    (repeat' (first | ((first | with_reducible refine vcG_split ?_ ?_ | with_reducible refine vcIf_split ?_ ?_ | with_reducible refine vcQ_split ?_ ?_ | with_reducible refine vcDG_split ?_ ?_) <;> intro hb <;> (try rw [hb]) <;> (try simp only [Bool.and_eq_true, Bool.or_eq_true, dtrue, dfalse, Bool.not_eq_true', Bool.not_eq_false', Bool.and_eq_false_iff, Bool.or_eq_false_iff, Bool.not_true, Bool.not_false] at hb) <;> (try simp only [within] at hb) <;> try (simp only [go_sem, hlt', hm, encJ])) | refine And.intro (by (first | exact trivial | (simp only [I64]; omega) | omega)) ?_ | (first | (refine vcP_pure (c99 _ _) rfl ?_ ?_ ?_; (focus (first | rfl | ((simp only [go_sem, hlt', hm, encJ, AV.pureL, AV.pure, pureL_mapI, Bool.and_self]) <;> fail))); (focus (first | ((simp only [go_sem, hlt', hm, encJ]) <;> fail) | rfl))) | (refine dCallP_pure (c99 _ _) rfl ?_ ?_ ?_; (focus (first | rfl | ((simp only [go_sem, hlt', hm, encJ, AV.pureL, AV.pure, pureL_mapI, Bool.and_self]) <;> fail))); (focus (first | ((simp only [go_sem, hlt', hm, encJ]) <;> fail) | rfl))) | (refine dCallC_pure (c99 _ _) rfl ?_ ?_ ?_; (focus (first | rfl | ((simp only [go_sem, hlt', hm, encJ, AV.pureL, AV.pure, pureL_mapI, Bool.and_self]) <;> fail))); (focus (first | ((simp only [go_sem, hlt', hm, encJ]) <;> fail) | rfl))) | refine dCallC_safe (c99 _ _) rfl rfl (by (simp only [go_sem, hlt', hm, encJ])) ?_ | refine vcP_safe (c99 _ _) rfl rfl (by (simp only [go_sem, hlt', hm, encJ])) ?_ | refine dCallP_safe (c99 _ _) rfl rfl ?_ | (refine vcP_pure (c100 _ _ _) rfl ?_ ?_ ?_; (focus (first | rfl | ((simp only [go_sem, hlt', hm, encJ, AV.pureL, AV.pure, pureL_mapI, Bool.and_self]) <;> fail))); (focus (first | ((simp only [go_sem, hlt', hm, encJ]) <;> fail) | rfl))) | (refine dCallP_pure (c100 _ _ _) rfl ?_ ?_ ?_; (focus (first | rfl | ((simp only [go_sem, hlt', hm, encJ, AV.pureL, AV.pure, pureL_mapI, Bool.and_self]) <;> fail))); (focus (first | ((simp only [go_sem, hlt', hm, encJ]) <;> fail) | rfl))) | (refine dCallC_pure (c100 _ _ _) rfl ?_ ?_ ?_; (focus (first | rfl | ((simp only [go_sem, hlt', hm, encJ, AV.pureL, AV.pure, pureL_mapI, Bool.and_self]) <;> fail))); (focus (first | ((simp only [go_sem, hlt', hm, encJ]) <;> fail) | rfl))) | refine dCallC_safe (c100 _ _ _) rfl rfl (by (simp only [go_sem, hlt', hm, encJ])) ?_ | refine vcP_safe (c100 _ _ _) rfl rfl (by (simp only [go_sem, hlt', hm, encJ])) ?_ | refine dCallP_safe (c100 _ _ _) rfl rfl ?_) | (with_reducible refine vcM_some fun mg => ?_) | (simp only [go_sem, hlt', hm, encJ])))
    all_goals first
      | exact ckE (s := s) fun h => absurd (h.2 m (List.mem_of_getElem? hm)) (by unfold okJob within; omega)
      | exact ⟨by (first | exact wk_same (by (simp only [go_sem, Int.natCast_add, Int.natCast_one, Int.natCast_zero, Int.cast_ofNat_Int])) | exact wk_drop (by (simp only [go_sem, Int.natCast_add, Int.natCast_one, Int.natCast_zero, Int.cast_ofNat_Int])) (by (simp only [go_sem, Int.natCast_add, Int.natCast_one, Int.natCast_zero, Int.cast_ofNat_Int])) (by (simp only [go_sem, Int.natCast_add, Int.natCast_one, Int.natCast_zero, Int.cast_ofNat_Int])) (by (simp only [go_sem, Int.natCast_add, Int.natCast_one, Int.natCast_zero, Int.cast_ofNat_Int])) (by (simp only [go_sem, Int.natCast_add, Int.natCast_one, Int.natCast_zero, Int.cast_ofNat_Int]))), hy.succ hm (by unfold okJob within; omega)⟩
  · have hge2' : ¬ (k : Int) < s.length := by omega
    (repeat' (first | ((first | with_reducible refine vcG_split ?_ ?_ | with_reducible refine vcIf_split ?_ ?_ | with_reducible refine vcQ_split ?_ ?_ | with_reducible refine vcDG_split ?_ ?_) <;> intro hb <;> (try rw [hb]) <;> (try simp only [Bool.and_eq_true, Bool.or_eq_true, dtrue, dfalse, Bool.not_eq_true', Bool.not_eq_false', Bool.and_eq_false_iff, Bool.or_eq_false_iff, Bool.not_true, Bool.not_false] at hb) <;> (try simp only [within] at hb) <;> try (simp only [go_sem, hge2'])) | refine And.intro (by (first | exact trivial | (simp only [I64]; omega) | omega)) ?_ | (with_reducible refine vcM_some fun mg => ?_) | (simp only [go_sem, hge2'])))
    exact ck0 ⟨by omega, hy.mem hge2⟩
theorem c39 (s : List Job) : PC Try.prog 39 [hS s] (.bool (decide (40 < s.length))) := by
  refine PC.body Try.func39 (by kernel_rfl) rfl (by simp [Try.f39]) rfl ?_
  simp only [Try.f39]
  intro hlen
  simp only [go_sem, List.length_map, and_true, true_and] at hlen
  refine CV.run ?_
  (repeat' (first | ((first | with_reducible refine vcG_split ?_ ?_ | with_reducible refine vcIf_split ?_ ?_ | with_reducible refine vcQ_split ?_ ?_ | with_reducible refine vcDG_split ?_ ?_) <;> intro hb <;> (try rw [hb]) <;> (try simp only [Bool.and_eq_true, Bool.or_eq_true, dtrue, dfalse, Bool.not_eq_true', Bool.not_eq_false', Bool.and_eq_false_iff, Bool.or_eq_false_iff, Bool.not_true, Bool.not_false] at hb) <;> (try simp only [within] at hb) <;> try (simp only [go_sem])) | refine And.intro (by (first | exact trivial | (simp only [I64]; omega) | omega)) ?_ | (with_reducible refine vcM_some fun mg => ?_) | (simp only [go_sem])))
  exact bd (by omega)
def far (s : List Job) : Prop := 40 < s.length ∨ 5 < s.length ∧ valid s
theorem c15 (s : List Job) : PC Try.prog 15 [hS s] (.bool (decide (far s))) := by
  refine PC.body Try.func15 (by kernel_rfl) rfl (by simp [Try.f15]) rfl ?_
  simp only [Try.f15]
  intro hlen
  simp only [go_sem, List.length_map, and_true, true_and] at hlen
  refine CV.run ?_
  (repeat' (first | ((first | with_reducible refine vcG_split ?_ ?_ | with_reducible refine vcIf_split ?_ ?_ | with_reducible refine vcQ_split ?_ ?_ | with_reducible refine vcDG_split ?_ ?_) <;> intro hb <;> (try rw [hb]) <;> (try simp only [Bool.and_eq_true, Bool.or_eq_true, dtrue, dfalse, Bool.not_eq_true', Bool.not_eq_false', Bool.and_eq_false_iff, Bool.or_eq_false_iff, Bool.not_true, Bool.not_false] at hb) <;> (try simp only [within] at hb) <;> try (simp only [go_sem])) | refine And.intro (by (first | exact trivial | (simp only [I64]; omega) | omega)) ?_ | (first | (refine vcP_pure (c39 _) rfl ?_ ?_ ?_; (focus (first | rfl | ((simp only [go_sem, AV.pureL, AV.pure, pureL_mapI, Bool.and_self]) <;> fail))); (focus (first | ((simp only [go_sem]) <;> fail) | rfl))) | (refine dCallP_pure (c39 _) rfl ?_ ?_ ?_; (focus (first | rfl | ((simp only [go_sem, AV.pureL, AV.pure, pureL_mapI, Bool.and_self]) <;> fail))); (focus (first | ((simp only [go_sem]) <;> fail) | rfl))) | (refine dCallC_pure (c39 _) rfl ?_ ?_ ?_; (focus (first | rfl | ((simp only [go_sem, AV.pureL, AV.pure, pureL_mapI, Bool.and_self]) <;> fail))); (focus (first | ((simp only [go_sem]) <;> fail) | rfl))) | refine dCallC_safe (c39 _) rfl rfl (by (simp only [go_sem])) ?_ | refine vcP_safe (c39 _) rfl rfl (by (simp only [go_sem])) ?_ | refine dCallP_safe (c39 _) rfl rfl ?_ | (refine vcP_pure (c16 _) rfl ?_ ?_ ?_; (focus (first | rfl | ((simp only [go_sem, AV.pureL, AV.pure, pureL_mapI, Bool.and_self]) <;> fail))); (focus (first | ((simp only [go_sem]) <;> fail) | rfl))) | (refine dCallP_pure (c16 _) rfl ?_ ?_ ?_; (focus (first | rfl | ((simp only [go_sem, AV.pureL, AV.pure, pureL_mapI, Bool.and_self]) <;> fail))); (focus (first | ((simp only [go_sem]) <;> fail) | rfl))) | (refine dCallC_pure (c16 _) rfl ?_ ?_ ?_; (focus (first | rfl | ((simp only [go_sem, AV.pureL, AV.pure, pureL_mapI, Bool.and_self]) <;> fail))); (focus (first | ((simp only [go_sem]) <;> fail) | rfl))) | refine dCallC_safe (c16 _) rfl rfl (by (simp only [go_sem])) ?_ | refine vcP_safe (c16 _) rfl rfl (by (simp only [go_sem])) ?_ | refine dCallP_safe (c16 _) rfl rfl ?_) | (with_reducible refine vcM_some fun mg => ?_) | (simp only [go_sem])))
  · exact bt (p := far s) (.inl hb)
  · refine bd (p := check s = 0) (q := far s) ?_
    rw [check0]; unfold far
    exact ⟨fun h => .inr ⟨by omega, h⟩, fun h => h.elim (fun q => absurd q (by omega)) (·.2)⟩
  · exact bf (p := far s) fun h => by unfold far at h; omega
end Go.Proofs.Ytoadkchhimojlaa.W5

