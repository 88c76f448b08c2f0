/- Contracts of functions of the given program, without a condition beyond those that each theorem states; they lead to the given statement. -/
import Derived.Test.YtoadkchhimojlaaK05i
set_option linter.unusedSimpArgs false
set_option linter.unusedVariables false
set_option maxRecDepth 100000
namespace Go.Proofs.Ytoadkchhimojlaa.W5
open Go Go.Fl
open Classical
def pl1 (s : List Job) (x : Int) : Int := if (jb s x).beat ≤ (jb s x).pour then 0 else 1
def pl2 (s : List Job) (x : Int) : Int := if (jb s x).beat ≤ (jb s x).pour then (jb s x).beat + (jb s x).high else -((jb s x).pour + (jb s x).high)
def cmpV (s : List Job) (a b : Int) : Int := if pl1 s a - pl1 s b ≠ 0 then pl1 s a - pl1 s b else pl2 s a - pl2 s b
theorem pl_bounds {s : List Job} (hv : valid s) {x : Int} (h : within x 0 (s.length - 1)) : (pl1 s x = 0 ∨ pl1 s x = 1) ∧ -18 ≤ pl2 s x ∧ pl2 s x ≤ 18 := by
  have hj := hv.jb h
  unfold okJob within at hj
  unfold pl1 pl2
  split <;> omega
theorem c47 (s : List Job) (hv : valid s) (x : Int) (hw : within x 0 (s.length - 1)) : PC Try.prog 47 [.int .i64 x, .pp (cS s)] (.tup [.int .i64 (pl1 s x), .int .i64 (pl2 s x)]) := by
  have hj := hv.jb hw
  have hjb := jb_at hw
  unfold okJob within at hj
  have hw' := hw
  unfold within at hw'
  have hx0 : x < s.length := by omega
  by_cases c : (jb s x).beat ≤ (jb s x).pour
  · simp only [pl1, pl2, if_pos c]
    refine PC.body Try.func47 (by kernel_rfl) rfl (by simp [Try.f47]) rfl ?_
    simp only [Try.f47]
    intro hlen
    simp only [go_sem, List.length_map, and_true, true_and] at hlen
    refine CV.run ?_
    (repeat' (first | ((first | with_reducible refine vcG_split ?_ ?_ | with_reducible refine vcIf_split ?_ ?_ | with_reducible refine vcQ_split ?_ ?_ | with_reducible refine vcDG_split ?_ ?_) <;> intro hb <;> (try rw [hb]) <;> (try simp only [Bool.and_eq_true, Bool.or_eq_true, dtrue, dfalse, Bool.not_eq_true', Bool.not_eq_false', Bool.and_eq_false_iff, Bool.or_eq_false_iff, Bool.not_true, Bool.not_false] at hb) <;> (try simp only [within] at hb) <;> try (simp only [go_sem, c, hjb, hx0, encJ])) | refine And.intro (by (first | exact trivial | (simp only [I64]; omega) | omega)) ?_ | (with_reducible rw [vc_draw_eq]; first | refine CV.draw (id := 3) [(0, 0), (0, 0), (0, 0), (0, 0), (0, 0), (0, 0), (0, 0), (0, 0)] mixed rfl (by kernel_rfl) ?_ | refine CV.draw (id := 4) [(0, 0), (0, 0), (0, 0), (0, 0), (0, 0), (0, 0), (0, 0), (0, 0), (0, 0)] mixed rfl (by kernel_rfl) ?_) | (simp only [go_sem, c, hjb, hx0, encJ])))
    all_goals omega
  · simp only [pl1, pl2, if_neg c]
    refine PC.body Try.func47 (by kernel_rfl) rfl (by simp [Try.f47]) rfl ?_
    simp only [Try.f47]
    intro hlen
    simp only [go_sem, List.length_map, and_true, true_and] at hlen
    refine CV.run ?_
    (repeat' (first | ((first | with_reducible refine vcG_split ?_ ?_ | with_reducible refine vcIf_split ?_ ?_ | with_reducible refine vcQ_split ?_ ?_ | with_reducible refine vcDG_split ?_ ?_) <;> intro hb <;> (try rw [hb]) <;> (try simp only [Bool.and_eq_true, Bool.or_eq_true, dtrue, dfalse, Bool.not_eq_true', Bool.not_eq_false', Bool.and_eq_false_iff, Bool.or_eq_false_iff, Bool.not_true, Bool.not_false] at hb) <;> (try simp only [within] at hb) <;> try (simp only [go_sem, c, hjb, hx0, encJ])) | refine And.intro (by (first | exact trivial | (simp only [I64]; omega) | omega)) ?_ | (with_reducible rw [vc_draw_eq]; first | refine CV.draw (id := 3) [(0, 0), (0, 0), (0, 0), (0, 0), (0, 0), (0, 0), (0, 0), (0, 0)] mixed rfl (by kernel_rfl) ?_ | refine CV.draw (id := 4) [(0, 0), (0, 0), (0, 0), (0, 0), (0, 0), (0, 0), (0, 0), (0, 0), (0, 0)] mixed rfl (by kernel_rfl) ?_) | (simp only [go_sem, c, hjb, hx0, encJ])))
    all_goals omega
def orV : List Int → Int
  | [] => 0
  | x :: l => if x ≠ 0 then x else orV l
theorem orV_at : ∀ {l : List Int} {j : Nat} {x : Int}, allTo (fun _ y => y = 0) l j → l[j]? = some x → x ≠ 0 → orV l = x
  | [], j, x, _, hx, _ => by simp at hx
  | y :: l, 0, x, _, hx, h => by simp at hx; subst hx; simp [orV, h]
  | y :: l, j + 1, x, ha, hx, h => by
    have h0 : y = 0 := ha 0 y (by omega) rfl
    simp only [orV, h0, ne_eq, not_true_eq_false, if_false]
    exact orV_at (j := j) (fun i z hi hz => ha (i + 1) z (by omega) (by simpa using hz)) (by simpa using hx) h
theorem orV_no : ∀ {l : List Int} {j : Nat}, allTo (fun _ y => y = 0) l j → l.length ≤ j → orV l = 0
  | [], _, _, _ => rfl
  | y :: l, 0, _, h => by simp at h
  | y :: l, j + 1, ha, h => by
    have h0 : y = 0 := ha 0 y (by omega) rfl
    simp only [orV, h0, ne_eq, not_true_eq_false, if_false]
    exact orV_no (j := j) (fun i z hi hz => ha (i + 1) z (by omega) (by simpa using hz)) (by simp at h; omega)
theorem c50 (l : List Int) : PC Try.prog 50 [lN l] (.int .i64 (orV l)) := by
  refine PC.body Try.func50 (by kernel_rfl) rfl (by simp [Try.f50]) rfl ?_
  simp only [Try.f50]
  intro hlen
  simp only [go_sem, List.length_map, and_true, true_and] at hlen
  refine CV.run ?_
  (repeat' (first | ((first | with_reducible refine vcG_split ?_ ?_ | with_reducible refine vcIf_split ?_ ?_ | with_reducible refine vcQ_split ?_ ?_ | with_reducible refine vcDG_split ?_ ?_) <;> intro hb <;> (try rw [hb]) <;> (try simp only [Bool.and_eq_true, Bool.or_eq_true, dtrue, dfalse, Bool.not_eq_true', Bool.not_eq_false', Bool.and_eq_false_iff, Bool.or_eq_false_iff, Bool.not_true, Bool.not_false] at hb) <;> (try simp only [within] at hb) <;> try (simp only [go_sem])) | refine And.intro (by (first | exact trivial | (simp only [I64]; omega) | omega)) ?_ | (simp only [go_sem])))
  refine vc_for (fun j => ⟨[(8, .int .i64 j), (7, .int .i64 l.length), (6, lN l), (3, .int .i64 0), (2, .int .i64 0)], []⟩) l.length (fun j => allTo (fun _ y => y = 0) l j) (by (first | exact wk_same (by (simp only [go_sem, Int.natCast_add, Int.natCast_one, Int.natCast_zero, Int.cast_ofNat_Int])) | exact wk_drop (by (simp only [go_sem, Int.natCast_add, Int.natCast_one, Int.natCast_zero, Int.cast_ofNat_Int])) (by (simp only [go_sem, Int.natCast_add, Int.natCast_one, Int.natCast_zero, Int.cast_ofNat_Int])) (by (simp only [go_sem, Int.natCast_add, Int.natCast_one, Int.natCast_zero, Int.cast_ofNat_Int])) (by (simp only [go_sem, Int.natCast_add, Int.natCast_one, Int.natCast_zero, Int.cast_ofNat_Int])) (by (simp only [go_sem, Int.natCast_add, Int.natCast_one, Int.natCast_zero, Int.cast_ofNat_Int])))) .zero ?_
  intro j hj hx
  rcases Nat.lt_or_ge j l.length with hlt | hge
  · obtain ⟨a, ha⟩ := get_of hlt
    have hlt' : (j : Int) < l.length := by omega
    by_cases h : a = 0
    · (repeat' (first | ((first | with_reducible refine vcG_split ?_ ?_ | with_reducible refine vcIf_split ?_ ?_ | with_reducible refine vcQ_split ?_ ?_ | with_reducible refine vcDG_split ?_ ?_) <;> intro hb <;> (try rw [hb]) <;> (try simp only [Bool.and_eq_true, Bool.or_eq_true, dtrue, dfalse, Bool.not_eq_true', Bool.not_eq_false', Bool.and_eq_false_iff, Bool.or_eq_false_iff, Bool.not_true, Bool.not_false] at hb) <;> (try simp only [within] at hb) <;> try (simp only [go_sem, hlt', ha, h, encN])) | refine And.intro (by (first | exact trivial | (simp only [I64]; omega) | omega)) ?_ | (simp only [go_sem, hlt', ha, h, encN])))
      exact ⟨by (first | exact wk_same (by (simp only [go_sem, Int.natCast_add, Int.natCast_one, Int.natCast_zero, Int.cast_ofNat_Int])) | exact wk_drop (by (simp only [go_sem, Int.natCast_add, Int.natCast_one, Int.natCast_zero, Int.cast_ofNat_Int])) (by (simp only [go_sem, Int.natCast_add, Int.natCast_one, Int.natCast_zero, Int.cast_ofNat_Int])) (by (simp only [go_sem, Int.natCast_add, Int.natCast_one, Int.natCast_zero, Int.cast_ofNat_Int])) (by (simp only [go_sem, Int.natCast_add, Int.natCast_one, Int.natCast_zero, Int.cast_ofNat_Int])) (by (simp only [go_sem, Int.natCast_add, Int.natCast_one, Int.natCast_zero, Int.cast_ofNat_Int]))), hx.succ ha h⟩
    · rw [orV_at hx ha h]
      (repeat' (first | ((first | with_reducible refine vcG_split ?_ ?_ | with_reducible refine vcIf_split ?_ ?_ | with_reducible refine vcQ_split ?_ ?_ | with_reducible refine vcDG_split ?_ ?_) <;> intro hb <;> (try rw [hb]) <;> (try simp only [Bool.and_eq_true, Bool.or_eq_true, dtrue, dfalse, Bool.not_eq_true', Bool.not_eq_false', Bool.and_eq_false_iff, Bool.or_eq_false_iff, Bool.not_true, Bool.not_false] at hb) <;> (try simp only [within] at hb) <;> try (simp only [go_sem, hlt', ha, h, encN])) | refine And.intro (by (first | exact trivial | (simp only [I64]; omega) | omega)) ?_ | (simp only [go_sem, hlt', ha, h, encN])))
      all_goals omega
  · have hge' : ¬ (j : Int) < l.length := by omega
    rw [orV_no hx hge]
    (repeat' (first | ((first | with_reducible refine vcG_split ?_ ?_ | with_reducible refine vcIf_split ?_ ?_ | with_reducible refine vcQ_split ?_ ?_ | with_reducible refine vcDG_split ?_ ?_) <;> intro hb <;> (try rw [hb]) <;> (try simp only [Bool.and_eq_true, Bool.or_eq_true, dtrue, dfalse, Bool.not_eq_true', Bool.not_eq_false', Bool.and_eq_false_iff, Bool.or_eq_false_iff, Bool.not_true, Bool.not_false] at hb) <;> (try simp only [within] at hb) <;> try (simp only [go_sem, hge'])) | refine And.intro (by (first | exact trivial | (simp only [I64]; omega) | omega)) ?_ | (simp only [go_sem, hge'])))
theorem orV_two {a b : Int} : orV [a, b] = if a ≠ 0 then a else b := by
  simp only [orV]
  split
  · rfl
  · split
    · rfl
    · omega
theorem c49 (s : List Job) (hv : valid s) (a b : Int) (ha : within a 0 (s.length - 1)) (hb : within b 0 (s.length - 1)) : PC Try.prog 49 [.int .i64 a, .int .i64 b, .pp [.fn 47 [.pp (cS s)]]] (.int .i64 (cmpV s a b)) := by
  have h1 := c47 s hv a ha
  have h2 := c47 s hv b hb
  have b1 := pl_bounds hv ha
  have b2 := pl_bounds hv hb
  have h97 := c50 [pl1 s a - pl1 s b, pl2 s a - pl2 s b]
  rw [orV_two] at h97
  unfold cmpV
  refine PC.body Try.func49 (by kernel_rfl) rfl (by simp [Try.f49]) rfl ?_
  simp only [Try.f49]
  intro hlen
  simp only [go_sem, List.length_map, and_true, true_and] at hlen
  refine CV.run ?_
  (repeat' (first | ((first | with_reducible refine vcG_split ?_ ?_ | with_reducible refine vcIf_split ?_ ?_ | with_reducible refine vcQ_split ?_ ?_ | with_reducible refine vcDG_split ?_ ?_) <;> intro hb <;> (try rw [hb]) <;> (try simp only [Bool.and_eq_true, Bool.or_eq_true, dtrue, dfalse, Bool.not_eq_true', Bool.not_eq_false', Bool.and_eq_false_iff, Bool.or_eq_false_iff, Bool.not_true, Bool.not_false] at hb) <;> (try simp only [within] at hb) <;> try (simp only [go_sem, encN, List.map_cons, List.map_nil])) | refine And.intro (by (first | exact trivial | (simp only [I64]; omega) | omega)) ?_ | (first | (refine vcP_pure (h1) rfl ?_ ?_ ?_; (focus (first | rfl | ((simp only [go_sem, encN, List.map_cons, List.map_nil, AV.pureL, AV.pure, pureL_mapI, Bool.and_self]) <;> fail))); (focus (first | ((simp only [go_sem, encN, List.map_cons, List.map_nil]) <;> fail) | rfl))) | (refine dCallP_pure (h1) rfl ?_ ?_ ?_; (focus (first | rfl | ((simp only [go_sem, encN, List.map_cons, List.map_nil, AV.pureL, AV.pure, pureL_mapI, Bool.and_self]) <;> fail))); (focus (first | ((simp only [go_sem, encN, List.map_cons, List.map_nil]) <;> fail) | rfl))) | (refine dCallC_pure (h1) rfl ?_ ?_ ?_; (focus (first | rfl | ((simp only [go_sem, encN, List.map_cons, List.map_nil, AV.pureL, AV.pure, pureL_mapI, Bool.and_self]) <;> fail))); (focus (first | ((simp only [go_sem, encN, List.map_cons, List.map_nil]) <;> fail) | rfl))) | refine dCallC_safe (h1) rfl rfl (by (simp only [go_sem, encN, List.map_cons, List.map_nil])) ?_ | refine vcP_safe (h1) rfl rfl (by (simp only [go_sem, encN, List.map_cons, List.map_nil])) ?_ | refine dCallP_safe (h1) rfl rfl ?_ | (refine vcP_pure (h2) rfl ?_ ?_ ?_; (focus (first | rfl | ((simp only [go_sem, encN, List.map_cons, List.map_nil, AV.pureL, AV.pure, pureL_mapI, Bool.and_self]) <;> fail))); (focus (first | ((simp only [go_sem, encN, List.map_cons, List.map_nil]) <;> fail) | rfl))) | (refine dCallP_pure (h2) rfl ?_ ?_ ?_; (focus (first | rfl | ((simp only [go_sem, encN, List.map_cons, List.map_nil, AV.pureL, AV.pure, pureL_mapI, Bool.and_self]) <;> fail))); (focus (first | ((simp only [go_sem, encN, List.map_cons, List.map_nil]) <;> fail) | rfl))) | (refine dCallC_pure (h2) rfl ?_ ?_ ?_; (focus (first | rfl | ((simp only [go_sem, encN, List.map_cons, List.map_nil, AV.pureL, AV.pure, pureL_mapI, Bool.and_self]) <;> fail))); (focus (first | ((simp only [go_sem, encN, List.map_cons, List.map_nil]) <;> fail) | rfl))) | refine dCallC_safe (h2) rfl rfl (by (simp only [go_sem, encN, List.map_cons, List.map_nil])) ?_ | refine vcP_safe (h2) rfl rfl (by (simp only [go_sem, encN, List.map_cons, List.map_nil])) ?_ | refine dCallP_safe (h2) rfl rfl ?_ | (refine vcP_pure (h97) rfl ?_ ?_ ?_; (focus (first | rfl | ((simp only [go_sem, encN, List.map_cons, List.map_nil, AV.pureL, AV.pure, pureL_mapI, Bool.and_self]) <;> fail))); (focus (first | ((simp only [go_sem, encN, List.map_cons, List.map_nil]) <;> fail) | rfl))) | (refine dCallP_pure (h97) rfl ?_ ?_ ?_; (focus (first | rfl | ((simp only [go_sem, encN, List.map_cons, List.map_nil, AV.pureL, AV.pure, pureL_mapI, Bool.and_self]) <;> fail))); (focus (first | ((simp only [go_sem, encN, List.map_cons, List.map_nil]) <;> fail) | rfl))) | (refine dCallC_pure (h97) rfl ?_ ?_ ?_; (focus (first | rfl | ((simp only [go_sem, encN, List.map_cons, List.map_nil, AV.pureL, AV.pure, pureL_mapI, Bool.and_self]) <;> fail))); (focus (first | ((simp only [go_sem, encN, List.map_cons, List.map_nil]) <;> fail) | rfl))) | refine dCallC_safe (h97) rfl rfl (by (simp only [go_sem, encN, List.map_cons, List.map_nil])) ?_ | refine vcP_safe (h97) rfl rfl (by (simp only [go_sem, encN, List.map_cons, List.map_nil])) ?_ | refine dCallP_safe (h97) rfl rfl ?_) | (simp only [go_sem, encN, List.map_cons, List.map_nil])))
end Go.Proofs.Ytoadkchhimojlaa.W5

