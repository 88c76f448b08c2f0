/- Contracts of functions of the given program, without a condition beyond those that each theorem states; they lead to the given statement. -/
import Derived.Test.YtoadkchhimojlaaK05s
set_option linter.unusedSimpArgs false
set_option linter.unusedVariables false
set_option maxRecDepth 100000
namespace Go.Proofs.Ytoadkchhimojlaa.W5
open Go Go.Fl
open Classical
def hiL (s : List Job) : List Int := s.map Job.high
theorem hiL_gv {s : List Job} : gv (hiL s) = hiD s := by
  funext x; unfold gv hiL hiD jb
  rw [List.getElem?_map]
  cases s[x.toNat]? <;> rfl
set_option maxHeartbeats 1000000 in
theorem c53 (s : List Job) (h : s.length ≤ 1000000) : PC Try.prog 53 [hS s] (lN (hiL s)) := by
  refine PC.body Try.func53 (by kernel_rfl) rfl (by simp [Try.f53]) rfl ?_
  simp only [Try.f53]
  intro hlen
  simp only [go_sem, List.length_map, and_true, true_and] at hlen
  refine CV.run ?_
  (repeat' (first | ((first | with_reducible refine vcG_split ?_ ?_ | with_reducible refine vcIf_split ?_ ?_ | with_reducible refine vcQ_split ?_ ?_ | with_reducible refine vcDG_split ?_ ?_) <;> intro hb <;> (try rw [hb]) <;> (try simp only [Bool.and_eq_true, Bool.or_eq_true, dtrue, dfalse, Bool.not_eq_true', Bool.not_eq_false', Bool.and_eq_false_iff, Bool.or_eq_false_iff, Bool.not_true, Bool.not_false] at hb) <;> (try simp only [within] at hb) <;> try (simp only [go_sem])) | refine And.intro (by (first | exact trivial | (simp only [I64]; omega) | omega)) ?_ | (simp only [go_sem])))
  refine vc_fw (fun j => ⟨[(4, .int .i64 j), (3, .row 1 j), (1, .lp 0 0), (2, .nilS)], [.box 48 (cS s) false, .row 3 1 ((s.map Job.high).take j |>.map encN) false]⟩) s.length (fun _ => True) (.nilE 3 3 1 (by (simp only [go_sem])) (by omega) (.base (by (first | exact wk_same (by (simp only [go_sem, Int.natCast_add, Int.natCast_one, Int.natCast_zero, Int.cast_ofNat_Int, List.take_zero, List.map_nil])) | exact wk_drop (by (simp only [go_sem, Int.natCast_add, Int.natCast_one, Int.natCast_zero, Int.cast_ofNat_Int, List.take_zero, List.map_nil])) (by (simp only [go_sem, Int.natCast_add, Int.natCast_one, Int.natCast_zero, Int.cast_ofNat_Int, List.take_zero, List.map_nil])) (by (simp only [go_sem, Int.natCast_add, Int.natCast_one, Int.natCast_zero, Int.cast_ofNat_Int, List.take_zero, List.map_nil])) (by (simp only [go_sem, Int.natCast_add, Int.natCast_one, Int.natCast_zero, Int.cast_ofNat_Int, List.take_zero, List.map_nil])) (by (simp only [go_sem, Int.natCast_add, Int.natCast_one, Int.natCast_zero, Int.cast_ofNat_Int, List.take_zero, List.map_nil])))))) trivial ?_
  intro j hj _
  rcases Nat.lt_or_ge j s.length with hlt | hge
  · obtain ⟨m, hm⟩ := get_of hlt
    have hlt' : (j : Int) < s.length := by omega
    have hm2 : (s.map Job.high)[j]? = some m.high := by rw [List.getElem?_map, hm]; rfl
    have e := take_sn hm2
    have hml : min j s.length = j := by omega
    (repeat' (first | ((first | with_reducible refine vcG_split ?_ ?_ | with_reducible refine vcIf_split ?_ ?_ | with_reducible refine vcQ_split ?_ ?_ | with_reducible refine vcDG_split ?_ ?_) <;> intro hb <;> (try rw [hb]) <;> (try simp only [Bool.and_eq_true, Bool.or_eq_true, dtrue, dfalse, Bool.not_eq_true', Bool.not_eq_false', Bool.and_eq_false_iff, Bool.or_eq_false_iff, Bool.not_true, Bool.not_false] at hb) <;> (try simp only [within] at hb) <;> try (simp only [go_sem, hlt', hm, encJ, List.length_map, List.length_take, hml])) | refine And.intro (by (first | exact trivial | (simp only [I64]; omega) | omega)) ?_ | (simp only [go_sem, hlt', hm, encJ, List.length_map, List.length_take, hml])))
    all_goals first
      | omega
      | exact .base (by (first | exact wk_same (by (simp only [go_sem, Int.natCast_add, Int.natCast_one, Int.natCast_zero, Int.cast_ofNat_Int, e, List.map_append, encN, List.map_cons, List.map_nil])) | exact wk_drop (by (simp only [go_sem, Int.natCast_add, Int.natCast_one, Int.natCast_zero, Int.cast_ofNat_Int, e, List.map_append, encN, List.map_cons, List.map_nil])) (by (simp only [go_sem, Int.natCast_add, Int.natCast_one, Int.natCast_zero, Int.cast_ofNat_Int, e, List.map_append, encN, List.map_cons, List.map_nil])) (by (simp only [go_sem, Int.natCast_add, Int.natCast_one, Int.natCast_zero, Int.cast_ofNat_Int, e, List.map_append, encN, List.map_cons, List.map_nil])) (by (simp only [go_sem, Int.natCast_add, Int.natCast_one, Int.natCast_zero, Int.cast_ofNat_Int, e, List.map_append, encN, List.map_cons, List.map_nil])) (by (simp only [go_sem, Int.natCast_add, Int.natCast_one, Int.natCast_zero, Int.cast_ofNat_Int, e, List.map_append, encN, List.map_cons, List.map_nil]))))
  · have hge' : ¬ (j : Int) < s.length := by omega
    have : j = s.length := by omega
    subst this
    have e : List.take s.length (s.map Job.high) = hiL s := List.take_of_length_le (by simp)
    (repeat' (first | ((first | with_reducible refine vcG_split ?_ ?_ | with_reducible refine vcIf_split ?_ ?_ | with_reducible refine vcQ_split ?_ ?_ | with_reducible refine vcDG_split ?_ ?_) <;> intro hb <;> (try rw [hb]) <;> (try simp only [Bool.and_eq_true, Bool.or_eq_true, dtrue, dfalse, Bool.not_eq_true', Bool.not_eq_false', Bool.and_eq_false_iff, Bool.or_eq_false_iff, Bool.not_true, Bool.not_false] at hb) <;> (try simp only [within] at hb) <;> try (simp only [go_sem, hge', e])) | refine And.intro (by (first | exact trivial | (simp only [I64]; omega) | omega)) ?_ | (simp only [go_sem, hge', e])))
    simp [hiL]
def tmT (s : List Job) (dr : Int → Int) (o : List Int) (j : Nat) : List Int := (List.range j).map fun i => (fin s dr (o.take (i + 1))).2
theorem tmT_zero {s : List Job} {dr : Int → Int} {o : List Int} : tmT s dr o 0 = [] := rfl
theorem tmT_succ {s : List Job} {dr : Int → Int} {o : List Int} {j : Nat} : tmT s dr o (j + 1) = tmT s dr o j ++ [(fin s dr (o.take (j + 1))).2] := by simp [tmT, List.range_succ]
theorem tmT_len {s : List Job} {dr : Int → Int} {o : List Int} {j : Nat} : (tmT s dr o j).length = j := by simp [tmT]
theorem tmT_get {s : List Job} {dr : Int → Int} {o : List Int} {j i : Nat} (h : i < j) : (tmT s dr o j)[i]? = some (fin s dr (o.take (i + 1))).2 := by simp [tmT, h]
def tmV (s : List Job) (dr : Int → Int) (o : List Int) : List Int := tmT s dr o o.length
def okDry (s : List Job) (d : List Int) : Prop := d.length = s.length ∧ ∀ x, within x 0 (s.length - 1) → 0 ≤ gv d x ∧ gv d x ≤ 9
set_option maxHeartbeats 2000000 in
theorem c52 (s : List Job) (o d : List Int) (hv : valid s) (ho : onJ s o) (hol : o.length ≤ 1000) (hd : okDry s d) : PC Try.prog 52 [hS s, lN o, lN d] (lN (tmV s (gv d) o)) := by
  refine PC.body Try.func52 (by kernel_rfl) rfl (by simp [Try.f52]) rfl ?_
  simp only [Try.f52]
  intro hlen
  simp only [go_sem, List.length_map, and_true, true_and] at hlen
  refine CV.run ?_
  (repeat' (first | ((first | with_reducible refine vcG_split ?_ ?_ | with_reducible refine vcIf_split ?_ ?_ | with_reducible refine vcQ_split ?_ ?_ | with_reducible refine vcDG_split ?_ ?_) <;> intro hb <;> (try rw [hb]) <;> (try simp only [Bool.and_eq_true, Bool.or_eq_true, dtrue, dfalse, Bool.not_eq_true', Bool.not_eq_false', Bool.and_eq_false_iff, Bool.or_eq_false_iff, Bool.not_true, Bool.not_false] at hb) <;> (try simp only [within] at hb) <;> try (simp only [go_sem])) | refine And.intro (by (first | exact trivial | (simp only [I64]; omega) | omega)) ?_ | (with_reducible rw [vc_draw_eq]; first | refine CV.draw (id := 6) [(0, 0), (0, 0), (0, 0), (0, 0), (0, 0), (0, 0), (0, 0), (0, 0), (0, 0), (0, 0)] mixed rfl (by kernel_rfl) ?_ | refine CV.draw (id := 8) [(0, 0), (0, 0), (0, 0), (0, 0), (0, 0), (0, 0), (0, 0), (0, 0), (0, 0), (0, 0), (0, 0), (0, 0), (0, 0), (0, 0), (0, 0)] mixed rfl (by kernel_rfl) ?_) | (simp only [go_sem])))
  refine vc_fw (fun j => ⟨[(10, .int .i64 j), (7, .row 1 j), (8, .int .i64 (fin s (gv d) (o.take j)).1), (9, .int .i64 (fin s (gv d) (o.take j)).2), (1, lN o), (2, lN d), (3, .lp 0 0), (6, .nilS)], [.box 48 (cS s) false, .row 3 1 ((tmT s (gv d) o j).map encN) false]⟩) o.length (fun _ => True) (.nilE 7 3 1 (by (simp only [go_sem])) (by omega) (.base (by (first | exact wk_same (by (simp only [go_sem, Int.natCast_add, Int.natCast_one, Int.natCast_zero, Int.cast_ofNat_Int, tmT_zero, List.map_nil, List.take_zero, fin_nil])) | exact wk_drop (by (simp only [go_sem, Int.natCast_add, Int.natCast_one, Int.natCast_zero, Int.cast_ofNat_Int, tmT_zero, List.map_nil, List.take_zero, fin_nil])) (by (simp only [go_sem, Int.natCast_add, Int.natCast_one, Int.natCast_zero, Int.cast_ofNat_Int, tmT_zero, List.map_nil, List.take_zero, fin_nil])) (by (simp only [go_sem, Int.natCast_add, Int.natCast_one, Int.natCast_zero, Int.cast_ofNat_Int, tmT_zero, List.map_nil, List.take_zero, fin_nil])) (by (simp only [go_sem, Int.natCast_add, Int.natCast_one, Int.natCast_zero, Int.cast_ofNat_Int, tmT_zero, List.map_nil, List.take_zero, fin_nil])) (by (simp only [go_sem, Int.natCast_add, Int.natCast_one, Int.natCast_zero, Int.cast_ofNat_Int, tmT_zero, List.map_nil, List.take_zero, fin_nil])))))) trivial ?_
  intro j hj _
  rcases Nat.lt_or_ge j o.length with hlt | hge
  · obtain ⟨x, hx⟩ := get_of hlt
    have hlt' : (j : Int) < o.length := by omega
    have hw := ho x (List.mem_of_getElem? hx)
    have hjb := jb_at hw
    have hjj := hv.jb hw
    unfold okJob within at hjj
    have hdx := hd.2 x hw
    have hw' := hw
    unfold within at hw'
    have hx0 : x < s.length := by omega
    have hxd : x < d.length := by rw [hd.1]; omega
    have hdg : d[x.toNat]? = some (gv d x) := gv_get (by rw [hd.1]; omega)
    have hb1 := fin_bounds hv (gv d) hd.2 (o.take j) fun y hy => ho y (List.mem_of_mem_take hy)
    rw [List.length_take] at hb1
    have e := take_sn hx
    have ef : fin s (gv d) (o.take (j + 1)) = stp s (gv d) (fin s (gv d) (o.take j)) x := by rw [e, fin_snoc]
    (repeat' (first | ((first | with_reducible refine vcG_split ?_ ?_ | with_reducible refine vcIf_split ?_ ?_ | with_reducible refine vcQ_split ?_ ?_ | with_reducible refine vcDG_split ?_ ?_) <;> intro hb <;> (try rw [hb]) <;> (try simp only [Bool.and_eq_true, Bool.or_eq_true, dtrue, dfalse, Bool.not_eq_true', Bool.not_eq_false', Bool.and_eq_false_iff, Bool.or_eq_false_iff, Bool.not_true, Bool.not_false] at hb) <;> (try simp only [within] at hb) <;> try (simp only [go_sem, hlt', hx, hjb, hx0, hxd, hdg, encN, encJ, List.length_map, tmT_len])) | refine And.intro (by (first | exact trivial | (simp only [I64]; omega) | omega)) ?_ | (with_reducible rw [vc_draw_eq]; first | refine CV.draw (id := 6) [(0, 0), (0, 0), (0, 0), (0, 0), (0, 0), (0, 0), (0, 0), (0, 0), (0, 0), (0, 0)] mixed rfl (by kernel_rfl) ?_ | refine CV.draw (id := 8) [(0, 0), (0, 0), (0, 0), (0, 0), (0, 0), (0, 0), (0, 0), (0, 0), (0, 0), (0, 0), (0, 0), (0, 0), (0, 0), (0, 0), (0, 0)] mixed rfl (by kernel_rfl) ?_) | (simp only [go_sem, hlt', hx, hjb, hx0, hxd, hdg, encN, encJ, List.length_map, tmT_len])))
    all_goals first
      | omega
      | (refine .base ?_; simp only [tmT_succ, ef, stp, List.map_append]; exact (by (first | exact wk_same (by (simp only [go_sem, Int.natCast_add, Int.natCast_one, Int.natCast_zero, Int.cast_ofNat_Int, encN, List.map_cons, List.map_nil])) | exact wk_drop (by (simp only [go_sem, Int.natCast_add, Int.natCast_one, Int.natCast_zero, Int.cast_ofNat_Int, encN, List.map_cons, List.map_nil])) (by (simp only [go_sem, Int.natCast_add, Int.natCast_one, Int.natCast_zero, Int.cast_ofNat_Int, encN, List.map_cons, List.map_nil])) (by (simp only [go_sem, Int.natCast_add, Int.natCast_one, Int.natCast_zero, Int.cast_ofNat_Int, encN, List.map_cons, List.map_nil])) (by (simp only [go_sem, Int.natCast_add, Int.natCast_one, Int.natCast_zero, Int.cast_ofNat_Int, encN, List.map_cons, List.map_nil])) (by (simp only [go_sem, Int.natCast_add, Int.natCast_one, Int.natCast_zero, Int.cast_ofNat_Int, encN, List.map_cons, List.map_nil])))))
  · have hge' : ¬ (j : Int) < o.length := by omega
    have : j = o.length := by omega
    subst this
    (repeat' (first | ((first | with_reducible refine vcG_split ?_ ?_ | with_reducible refine vcIf_split ?_ ?_ | with_reducible refine vcQ_split ?_ ?_ | with_reducible refine vcDG_split ?_ ?_) <;> intro hb <;> (try rw [hb]) <;> (try simp only [Bool.and_eq_true, Bool.or_eq_true, dtrue, dfalse, Bool.not_eq_true', Bool.not_eq_false', Bool.and_eq_false_iff, Bool.or_eq_false_iff, Bool.not_true, Bool.not_false] at hb) <;> (try simp only [within] at hb) <;> try (simp only [go_sem, hge'])) | refine And.intro (by (first | exact trivial | (simp only [I64]; omega) | omega)) ?_ | (with_reducible rw [vc_draw_eq]; first | refine CV.draw (id := 6) [(0, 0), (0, 0), (0, 0), (0, 0), (0, 0), (0, 0), (0, 0), (0, 0), (0, 0), (0, 0)] mixed rfl (by kernel_rfl) ?_ | refine CV.draw (id := 8) [(0, 0), (0, 0), (0, 0), (0, 0), (0, 0), (0, 0), (0, 0), (0, 0), (0, 0), (0, 0), (0, 0), (0, 0), (0, 0), (0, 0), (0, 0)] mixed rfl (by kernel_rfl) ?_) | (simp only [go_sem, hge'])))
    exact ⟨tmT_len, frzE_self _ _ (by rw [pureN]; trivial)⟩
end Go.Proofs.Ytoadkchhimojlaa.W5

