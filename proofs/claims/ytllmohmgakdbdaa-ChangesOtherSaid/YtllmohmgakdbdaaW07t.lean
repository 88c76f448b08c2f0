/- Contracts of functions of the given program, without a condition beyond those that each theorem states; they lead to the given statement. -/
import Derived.Test.YtllmohmgakdbdaaW07s
set_option linter.unusedSimpArgs false
set_option linter.unusedVariables false
set_option maxRecDepth 100000
namespace Go.Proofs.Ytllmohmgakdbdaa
open Go Go.Fl
open Classical
def cmp1 (x y : Int) : Int := if x < y then -1 else if y < x then 1 else 0
def lexC : List Int → List Int → Int
  | [], [] => 0
  | [], _ :: _ => -1
  | _ :: _, [] => 1
  | x :: a, y :: b => if cmp1 x y = 0 then lexC a b else cmp1 x y
def orL : List Int → Int
  | [] => 0
  | x :: r => if x = 0 then orL r else x
theorem c103 (n : Int) : PC Try.prog 103 [.int .i64 n] (.bool false) := by
  refine PC.body Try.func103 (by kernel_rfl) rfl (by simp [Try.f103]) rfl ?_
  simp only [Try.f103]
  intro hlen
  simp only [go_sem, List.length_map, and_true, true_and] at hlen
  refine CV.run ?_
  (repeat' (first | ((first | with_reducible refine vcG_split ?_ ?_ | with_reducible refine vcIf_split ?_ ?_ | with_reducible refine vcQ_split ?_ ?_ | with_reducible refine vcDG_split ?_ ?_) <;> intro hb <;> (try rw [hb]) <;> (try simp only [Bool.and_eq_true, Bool.or_eq_true, dtrue, dfalse, Bool.not_eq_true', Bool.not_eq_false', Bool.and_eq_false_iff, Bool.or_eq_false_iff, Bool.not_true, Bool.not_false] at hb) <;> (try simp only [within] at hb) <;> try (simp only [go_sem])) | refine And.intro (by (first | exact trivial | (simp only [I64]; omega) | omega)) ?_ | fail | (simp only [go_sem])))
theorem c101 (x y : Int) : PC Try.prog 101 [.int .i64 x, .int .i64 y] (.int .i64 (cmp1 x y)) := by
  refine PC.body Try.func101 (by kernel_rfl) rfl (by simp [Try.f101]) rfl ?_
  simp only [Try.f101]
  intro hlen
  simp only [go_sem, List.length_map, and_true, true_and] at hlen
  refine CV.run ?_
  (repeat' (first | ((first | with_reducible refine vcG_split ?_ ?_ | with_reducible refine vcIf_split ?_ ?_ | with_reducible refine vcQ_split ?_ ?_ | with_reducible refine vcDG_split ?_ ?_) <;> intro hb <;> (try rw [hb]) <;> (try simp only [Bool.and_eq_true, Bool.or_eq_true, dtrue, dfalse, Bool.not_eq_true', Bool.not_eq_false', Bool.and_eq_false_iff, Bool.or_eq_false_iff, Bool.not_true, Bool.not_false] at hb) <;> (try simp only [within] at hb) <;> try (simp only [go_sem])) | refine And.intro (by (first | exact trivial | (simp only [I64]; omega) | omega)) ?_ | (first | (refine vcP_pure (c103 _) rfl ?_ ?_ ?_; (focus (first | rfl | ((simp only [go_sem, AV.pureL, AV.pure, pureL_mapI, Bool.and_self]) <;> fail))); (focus (first | ((simp only [go_sem]) <;> fail) | rfl))) | (refine dCallP_pure (c103 _) rfl ?_ ?_ ?_; (focus (first | rfl | ((simp only [go_sem, AV.pureL, AV.pure, pureL_mapI, Bool.and_self]) <;> fail))); (focus (first | ((simp only [go_sem]) <;> fail) | rfl))) | refine vcP_safe (c103 _) rfl rfl (by (simp only [go_sem])) ?_ | refine dCallP_safe (c103 _) rfl rfl ?_) | (simp only [go_sem])))
  all_goals (unfold cmp1; first | rw [if_pos (by assumption)] | (rw [if_neg (by assumption)]; first | rw [if_pos (by assumption)] | rw [if_neg (by assumption)]))
theorem c89 (l : List Int) : PC Try.prog 89 [lN l] (.int .i64 (orL l)) := by
  refine PC.body Try.func89 (by kernel_rfl) rfl (by simp [Try.f89]) rfl ?_
  simp only [Try.f89]
  intro hlen
  simp only [go_sem, List.length_map, and_true, true_and] at hlen
  refine CV.run ?_
  (repeat' (first | ((first | with_reducible refine vcG_split ?_ ?_ | with_reducible refine vcIf_split ?_ ?_ | with_reducible refine vcQ_split ?_ ?_ | with_reducible refine vcDG_split ?_ ?_) <;> intro hb <;> (try rw [hb]) <;> (try simp only [Bool.and_eq_true, Bool.or_eq_true, dtrue, dfalse, Bool.not_eq_true', Bool.not_eq_false', Bool.and_eq_false_iff, Bool.or_eq_false_iff, Bool.not_true, Bool.not_false] at hb) <;> (try simp only [within] at hb) <;> try (simp only [go_sem])) | refine And.intro (by (first | exact trivial | (simp only [I64]; omega) | omega)) ?_ | fail | (simp only [go_sem])))
  refine vc_for (fun j => ⟨[(8, .int .i64 j), (7, .int .i64 l.length), (6, lN l), (3, .int .i64 0)], []⟩) l.length (fun j => orL (l.drop j) = orL l) (by (first | exact wk_same (by (simp only [go_sem, Int.natCast_add, Int.natCast_one, Int.natCast_zero, Int.cast_ofNat_Int])) | exact wk_drop (by (simp only [go_sem, Int.natCast_add, Int.natCast_one, Int.natCast_zero, Int.cast_ofNat_Int])) (by (simp only [go_sem, Int.natCast_add, Int.natCast_one, Int.natCast_zero, Int.cast_ofNat_Int])) (by (simp only [go_sem, Int.natCast_add, Int.natCast_one, Int.natCast_zero, Int.cast_ofNat_Int])) (by (simp only [go_sem, Int.natCast_add, Int.natCast_one, Int.natCast_zero, Int.cast_ofNat_Int])) (by (simp only [go_sem, Int.natCast_add, Int.natCast_one, Int.natCast_zero, Int.cast_ofNat_Int])))) (by simp) ?_
  intro j hj hx
  rcases Nat.lt_or_ge j l.length with hlt | hge
  · obtain ⟨a, ha⟩ := get_of hlt
    have hlt' : (j : Int) < l.length := by omega
    have hd : l.drop j = a :: l.drop (j + 1) := by
      rw [List.drop_eq_getElem_cons hlt]; congr 1
      have := List.getElem?_eq_getElem hlt
      rw [ha] at this; cases this; rfl
    rw [hd] at hx
    (repeat' (first | ((first | with_reducible refine vcG_split ?_ ?_ | with_reducible refine vcIf_split ?_ ?_ | with_reducible refine vcQ_split ?_ ?_ | with_reducible refine vcDG_split ?_ ?_) <;> intro hb <;> (try rw [hb]) <;> (try simp only [Bool.and_eq_true, Bool.or_eq_true, dtrue, dfalse, Bool.not_eq_true', Bool.not_eq_false', Bool.and_eq_false_iff, Bool.or_eq_false_iff, Bool.not_true, Bool.not_false] at hb) <;> (try simp only [within] at hb) <;> try (simp only [go_sem, hlt', ha, encN])) | refine And.intro (by (first | exact trivial | (simp only [I64]; omega) | omega)) ?_ | fail | (simp only [go_sem, hlt', ha, encN])))
    · rw [← hx]; simp [orL, hb]
    · exact ⟨by (first | exact wk_same (by (simp only [go_sem, Int.natCast_add, Int.natCast_one, Int.natCast_zero, Int.cast_ofNat_Int])) | exact wk_drop (by (simp only [go_sem, Int.natCast_add, Int.natCast_one, Int.natCast_zero, Int.cast_ofNat_Int])) (by (simp only [go_sem, Int.natCast_add, Int.natCast_one, Int.natCast_zero, Int.cast_ofNat_Int])) (by (simp only [go_sem, Int.natCast_add, Int.natCast_one, Int.natCast_zero, Int.cast_ofNat_Int])) (by (simp only [go_sem, Int.natCast_add, Int.natCast_one, Int.natCast_zero, Int.cast_ofNat_Int])) (by (simp only [go_sem, Int.natCast_add, Int.natCast_one, Int.natCast_zero, Int.cast_ofNat_Int]))), by rw [← hx]; simp [orL, hb]⟩
  · have hge' : ¬ (j : Int) < l.length := by omega
    rw [List.drop_eq_nil_of_le (by omega)] at hx
    (repeat' (first | ((first | with_reducible refine vcG_split ?_ ?_ | with_reducible refine vcIf_split ?_ ?_ | with_reducible refine vcQ_split ?_ ?_ | with_reducible refine vcDG_split ?_ ?_) <;> intro hb <;> (try rw [hb]) <;> (try simp only [Bool.and_eq_true, Bool.or_eq_true, dtrue, dfalse, Bool.not_eq_true', Bool.not_eq_false', Bool.and_eq_false_iff, Bool.or_eq_false_iff, Bool.not_true, Bool.not_false] at hb) <;> (try simp only [within] at hb) <;> try (simp only [go_sem, hge'])) | refine And.intro (by (first | exact trivial | (simp only [I64]; omega) | omega)) ?_ | fail | (simp only [go_sem, hge'])))
    rw [← hx]; rfl
theorem c90 (a b : List Int) : PC Try.prog 90 [lN a, lN b] (.int .i64 (lexC a b)) := by
  refine PC.body Try.func90 (by kernel_rfl) rfl (by simp [Try.f90]) rfl ?_
  simp only [Try.f90]
  intro hlen
  simp only [go_sem, List.length_map, and_true, true_and] at hlen
  refine CV.run ?_
  (repeat' (first | ((first | with_reducible refine vcG_split ?_ ?_ | with_reducible refine vcIf_split ?_ ?_ | with_reducible refine vcQ_split ?_ ?_ | with_reducible refine vcDG_split ?_ ?_) <;> intro hb <;> (try rw [hb]) <;> (try simp only [Bool.and_eq_true, Bool.or_eq_true, dtrue, dfalse, Bool.not_eq_true', Bool.not_eq_false', Bool.and_eq_false_iff, Bool.or_eq_false_iff, Bool.not_true, Bool.not_false] at hb) <;> (try simp only [within] at hb) <;> try (simp only [go_sem])) | refine And.intro (by (first | exact trivial | (simp only [I64]; omega) | omega)) ?_ | fail | (simp only [go_sem])))
  refine vc_for (fun j => ⟨[(11, .int .i64 j), (10, .int .i64 a.length), (9, lN a), (0, lN a), (1, lN b)], []⟩) a.length (fun j => j ≤ b.length ∧ lexC (a.drop j) (b.drop j) = lexC a b) (by (first | exact wk_same (by (simp only [go_sem, Int.natCast_add, Int.natCast_one, Int.natCast_zero, Int.cast_ofNat_Int])) | exact wk_drop (by (simp only [go_sem, Int.natCast_add, Int.natCast_one, Int.natCast_zero, Int.cast_ofNat_Int])) (by (simp only [go_sem, Int.natCast_add, Int.natCast_one, Int.natCast_zero, Int.cast_ofNat_Int])) (by (simp only [go_sem, Int.natCast_add, Int.natCast_one, Int.natCast_zero, Int.cast_ofNat_Int])) (by (simp only [go_sem, Int.natCast_add, Int.natCast_one, Int.natCast_zero, Int.cast_ofNat_Int])) (by (simp only [go_sem, Int.natCast_add, Int.natCast_one, Int.natCast_zero, Int.cast_ofNat_Int])))) (by simp) ?_
  intro j hj hx
  obtain ⟨hjb, hx⟩ := hx
  rcases Nat.lt_or_ge j a.length with hlt | hge
  · obtain ⟨x, ha⟩ := get_of hlt
    have hlt' : (j : Int) < a.length := by omega
    have hd : a.drop j = x :: a.drop (j + 1) := by
      rw [List.drop_eq_getElem_cons hlt]; congr 1
      have := List.getElem?_eq_getElem hlt
      rw [ha] at this; cases this; rfl
    rcases Nat.lt_or_ge j b.length with hlt2 | hge2
    · obtain ⟨y, hbb⟩ := get_of hlt2
      have hlt2' : ¬ (b.length : Int) ≤ j := by omega
      have hd2 : b.drop j = y :: b.drop (j + 1) := by
        rw [List.drop_eq_getElem_cons hlt2]; congr 1
        have := List.getElem?_eq_getElem hlt2
        rw [hbb] at this; cases this; rfl
      rw [hd, hd2] at hx
      (repeat' (first | ((first | with_reducible refine vcG_split ?_ ?_ | with_reducible refine vcIf_split ?_ ?_ | with_reducible refine vcQ_split ?_ ?_ | with_reducible refine vcDG_split ?_ ?_) <;> intro hb <;> (try rw [hb]) <;> (try simp only [Bool.and_eq_true, Bool.or_eq_true, dtrue, dfalse, Bool.not_eq_true', Bool.not_eq_false', Bool.and_eq_false_iff, Bool.or_eq_false_iff, Bool.not_true, Bool.not_false] at hb) <;> (try simp only [within] at hb) <;> try (simp only [go_sem, hlt', hlt2', ha, hbb, encN])) | refine And.intro (by (first | exact trivial | (simp only [I64]; omega) | omega)) ?_ | (first | (refine vcP_pure (c101 _ _) rfl ?_ ?_ ?_; (focus (first | rfl | ((simp only [go_sem, hlt', hlt2', ha, hbb, encN, AV.pureL, AV.pure, pureL_mapI, Bool.and_self]) <;> fail))); (focus (first | ((simp only [go_sem, hlt', hlt2', ha, hbb, encN]) <;> fail) | rfl))) | (refine dCallP_pure (c101 _ _) rfl ?_ ?_ ?_; (focus (first | rfl | ((simp only [go_sem, hlt', hlt2', ha, hbb, encN, AV.pureL, AV.pure, pureL_mapI, Bool.and_self]) <;> fail))); (focus (first | ((simp only [go_sem, hlt', hlt2', ha, hbb, encN]) <;> fail) | rfl))) | refine vcP_safe (c101 _ _) rfl rfl (by (simp only [go_sem, hlt', hlt2', ha, hbb, encN])) ?_ | refine dCallP_safe (c101 _ _) rfl rfl ?_) | (simp only [go_sem, hlt', hlt2', ha, hbb, encN])))
      all_goals first
        | (exfalso; omega)
        | (rw [← hx]; simp [lexC, hb]; done)
        | (exact ⟨by (first | exact wk_same (by (simp only [go_sem, Int.natCast_add, Int.natCast_one, Int.natCast_zero, Int.cast_ofNat_Int])) | exact wk_drop (by (simp only [go_sem, Int.natCast_add, Int.natCast_one, Int.natCast_zero, Int.cast_ofNat_Int])) (by (simp only [go_sem, Int.natCast_add, Int.natCast_one, Int.natCast_zero, Int.cast_ofNat_Int])) (by (simp only [go_sem, Int.natCast_add, Int.natCast_one, Int.natCast_zero, Int.cast_ofNat_Int])) (by (simp only [go_sem, Int.natCast_add, Int.natCast_one, Int.natCast_zero, Int.cast_ofNat_Int])) (by (simp only [go_sem, Int.natCast_add, Int.natCast_one, Int.natCast_zero, Int.cast_ofNat_Int]))), by omega, by rw [← hx]; simp [lexC, hb]⟩)
        | trace_state
    · have hge2' : (b.length : Int) ≤ j := by omega
      rw [hd, show b.drop j = [] from List.drop_eq_nil_of_le (by omega)] at hx
      (repeat' (first | ((first | with_reducible refine vcG_split ?_ ?_ | with_reducible refine vcIf_split ?_ ?_ | with_reducible refine vcQ_split ?_ ?_ | with_reducible refine vcDG_split ?_ ?_) <;> intro hb <;> (try rw [hb]) <;> (try simp only [Bool.and_eq_true, Bool.or_eq_true, dtrue, dfalse, Bool.not_eq_true', Bool.not_eq_false', Bool.and_eq_false_iff, Bool.or_eq_false_iff, Bool.not_true, Bool.not_false] at hb) <;> (try simp only [within] at hb) <;> try (simp only [go_sem, hlt', hge2', ha, encN])) | refine And.intro (by (first | exact trivial | (simp only [I64]; omega) | omega)) ?_ | (first | (refine vcP_pure (c101 _ _) rfl ?_ ?_ ?_; (focus (first | rfl | ((simp only [go_sem, hlt', hge2', ha, encN, AV.pureL, AV.pure, pureL_mapI, Bool.and_self]) <;> fail))); (focus (first | ((simp only [go_sem, hlt', hge2', ha, encN]) <;> fail) | rfl))) | (refine dCallP_pure (c101 _ _) rfl ?_ ?_ ?_; (focus (first | rfl | ((simp only [go_sem, hlt', hge2', ha, encN, AV.pureL, AV.pure, pureL_mapI, Bool.and_self]) <;> fail))); (focus (first | ((simp only [go_sem, hlt', hge2', ha, encN]) <;> fail) | rfl))) | refine vcP_safe (c101 _ _) rfl rfl (by (simp only [go_sem, hlt', hge2', ha, encN])) ?_ | refine dCallP_safe (c101 _ _) rfl rfl ?_) | (simp only [go_sem, hlt', hge2', ha, encN])))
      all_goals first
        | (rw [← hx]; simp [lexC]; done)
        | trace_state
  · have hge' : ¬ (j : Int) < a.length := by omega
    have hja : j = a.length := by omega
    rw [List.drop_eq_nil_of_le (by omega)] at hx
    rcases Nat.lt_or_ge a.length b.length with hl | hl
    · have hl' : (a.length : Int) < b.length := by omega
      rw [List.drop_eq_getElem_cons (by omega)] at hx
      (repeat' (first | ((first | with_reducible refine vcG_split ?_ ?_ | with_reducible refine vcIf_split ?_ ?_ | with_reducible refine vcQ_split ?_ ?_ | with_reducible refine vcDG_split ?_ ?_) <;> intro hb <;> (try rw [hb]) <;> (try simp only [Bool.and_eq_true, Bool.or_eq_true, dtrue, dfalse, Bool.not_eq_true', Bool.not_eq_false', Bool.and_eq_false_iff, Bool.or_eq_false_iff, Bool.not_true, Bool.not_false] at hb) <;> (try simp only [within] at hb) <;> try (simp only [go_sem, hge', hl'])) | refine And.intro (by (first | exact trivial | (simp only [I64]; omega) | omega)) ?_ | fail | (simp only [go_sem, hge', hl'])))
      rw [← hx]; rfl
    · have hl' : ¬ (a.length : Int) < b.length := by omega
      rw [List.drop_eq_nil_of_le (by omega)] at hx
      (repeat' (first | ((first | with_reducible refine vcG_split ?_ ?_ | with_reducible refine vcIf_split ?_ ?_ | with_reducible refine vcQ_split ?_ ?_ | with_reducible refine vcDG_split ?_ ?_) <;> intro hb <;> (try rw [hb]) <;> (try simp only [Bool.and_eq_true, Bool.or_eq_true, dtrue, dfalse, Bool.not_eq_true', Bool.not_eq_false', Bool.and_eq_false_iff, Bool.or_eq_false_iff, Bool.not_true, Bool.not_false] at hb) <;> (try simp only [within] at hb) <;> try (simp only [go_sem, hge', hl'])) | refine And.intro (by (first | exact trivial | (simp only [I64]; omega) | omega)) ?_ | fail | (simp only [go_sem, hge', hl'])))
      rw [← hx]; rfl
theorem c86 (ts : List Thing) (ms : List Mark) (c now : Int) : PC Try.prog 86 [hT ts ms, .int .i64 c, .int .i64 now] (.fn 99 [.pp [.lst false 4 (ts.map encT), .lst false 3 (ms.map encM)], .pp [.int .i64 c], .pp [.int .i64 now]]) := by
  refine PC.body Try.func86 (by kernel_rfl) rfl (by simp [Try.f86]) rfl ?_
  simp only [Try.f86]
  intro hlen
  simp only [go_sem, List.length_map, and_true, true_and] at hlen
  refine CV.run ?_
  (repeat' (first | ((first | with_reducible refine vcG_split ?_ ?_ | with_reducible refine vcIf_split ?_ ?_ | with_reducible refine vcQ_split ?_ ?_ | with_reducible refine vcDG_split ?_ ?_) <;> intro hb <;> (try rw [hb]) <;> (try simp only [Bool.and_eq_true, Bool.or_eq_true, dtrue, dfalse, Bool.not_eq_true', Bool.not_eq_false', Bool.and_eq_false_iff, Bool.or_eq_false_iff, Bool.not_true, Bool.not_false] at hb) <;> (try simp only [within] at hb) <;> try (simp only [go_sem])) | refine And.intro (by (first | exact trivial | (simp only [I64]; omega) | omega)) ?_ | fail | (simp only [go_sem])))
def better (ts : List Thing) (a b : List Int) : Prop := orL [costOf ts a - costOf ts b, (a.length : Int) - b.length, lexC a b] < 0
noncomputable def bestK (ts : List Thing) (ms : List Mark) (c now : Int) : Nat → Option (List Int)
  | 0 => none
  | k + 1 => if isRem ts ms c now (setOf k ts.length) then
      match bestK ts ms c now k with
      | none => some (setOf k ts.length)
      | some b => if better ts (setOf k ts.length) b then some (setOf k ts.length) else some b
    else bestK ts ms c now k
def bestC (ts : List Thing) : Option (List Int) → List AV
  | none => [.nilS, .int .i64 0]
  | some b => [lN b, .int .i64 (costOf ts b)]
theorem bestC_none {ts : List Thing} : bestC ts none = [.nilS, .int .i64 0] := rfl
theorem bestC_some {ts : List Thing} {b : List Int} : bestC ts (some b) = [lN b, .int .i64 (costOf ts b)] := rfl
attribute [go_sem] bestC_none bestC_some Option.isNone_none Option.isNone_some
theorem bestC_pure {ts : List Thing} : ∀ o, AV.pureL (bestC ts o) = true
  | none => rfl
  | some _ => rfl
theorem belowL_bestC {n : Nat} {ts : List Thing} {o : Option (List Int)} : (belowL n (bestC ts o) = true) = True := by simp [belowL_pure n _ (bestC_pure _)]
attribute [go_sem] belowL_bestC
theorem setOf_bounds (ts : List Thing) (hv : okThings ts) (k : Nat) : 0 ≤ costOf ts (setOf k ts.length) ∧ costOf ts (setOf k ts.length) ≤ 99 * ts.length ∧ (setOf k ts.length).length ≤ ts.length :=
  ⟨(costOf_bounds ts hv _ _ (Nat.le_refl _)).1, (costOf_bounds ts hv _ _ (Nat.le_refl _)).2, sel_len _ _⟩
theorem bestK_bounds (ts : List Thing) (ms : List Mark) (hv : okThings ts) (c now : Int) : ∀ k b, bestK ts ms c now k = some b → 0 ≤ costOf ts b ∧ costOf ts b ≤ 99 * ts.length ∧ b.length ≤ ts.length
  | 0, b, h => by simp [bestK] at h
  | k + 1, b, h => by
    have hs := setOf_bounds ts hv k
    have ih := bestK_bounds ts ms hv c now k
    unfold bestK at h
    split at h
    · split at h
      · cases h; exact hs
      · rename_i b0 hb0
        split at h
        · cases h; exact hs
        · cases h; exact ih _ hb0
    · exact ih b h
theorem c62 (ts : List Thing) (ms : List Mark) (hv : okThings ts) (hm : okMarks ts ms) (h8 : ts.length ≤ 8) (c now : Int) (hc : within c 0 2) (hnow : within now 0 99) (hml : ms.length ≤ 40) : PC Try.prog 62 [hT ts ms, .int .i64 c, .int .i64 now] (.agg [lN ((bestK ts ms c now (2 ^ ts.length)).getD []), .int .i64 (costOf ts ((bestK ts ms c now (2 ^ ts.length)).getD []))]) := by
  refine PC.body Try.func62 (by kernel_rfl) rfl (by simp [Try.f62]) rfl ?_
  simp only [Try.f62]
  intro hlen
  simp only [go_sem, List.length_map, and_true, true_and] at hlen
  refine CV.run ?_
  (repeat' (first | ((first | with_reducible refine vcG_split ?_ ?_ | with_reducible refine vcIf_split ?_ ?_ | with_reducible refine vcQ_split ?_ ?_ | with_reducible refine vcDG_split ?_ ?_) <;> intro hb <;> (try rw [hb]) <;> (try simp only [Bool.and_eq_true, Bool.or_eq_true, dtrue, dfalse, Bool.not_eq_true', Bool.not_eq_false', Bool.and_eq_false_iff, Bool.or_eq_false_iff, Bool.not_true, Bool.not_false] at hb) <;> (try simp only [within] at hb) <;> try (simp only [go_sem])) | refine And.intro (by (first | exact trivial | (simp only [I64]; omega) | omega)) ?_ | (with_reducible rw [vc_draw_eq]; first | refine CV.draw (id := 4) [(0, 0), (0, 0), (0, 0), (0, 0), (0, 0), (0, 0), (0, 0), (0, 0), (0, 0), (0, 0), (0, 0), (0, 0), (0, 0), (0, 0), (0, 0), (0, 0), (0, 0), (0, 0), (0, 0), (0, 0), (0, 0), (0, 0), (0, 0)] mixed rfl (by kernel_rfl) ?_) | (first | (refine vcP_pure (c86 ts ms c now) rfl ?_ ?_ ?_; (focus (first | rfl | ((simp only [go_sem, AV.pureL, AV.pure, pureL_mapI, Bool.and_self]) <;> fail))); (focus (first | ((simp only [go_sem]) <;> fail) | rfl))) | (refine dCallP_pure (c86 ts ms c now) rfl ?_ ?_ ?_; (focus (first | rfl | ((simp only [go_sem, AV.pureL, AV.pure, pureL_mapI, Bool.and_self]) <;> fail))); (focus (first | ((simp only [go_sem]) <;> fail) | rfl))) | refine vcP_safe (c86 ts ms c now) rfl rfl (by (simp only [go_sem])) ?_ | refine dCallP_safe (c86 ts ms c now) rfl rfl ?_) | (simp only [go_sem])))
  rw [vc_range_eq]
  refine CV.wk (st' := ⟨[(12, .fn 99 [.pp [.lst false 4 (ts.map encT), .lst false 3 (ms.map encM)], .pp [.int .i64 c], .pp [.int .i64 now]]), (3, .lp 0 0), (6, .lp 1 0), (7, .lp 2 0)], [.box 25 [.lst false 4 (ts.map encT), .lst false 3 (ms.map encM)] false, .box 76 [.nilS, .int .i64 0] false, .box 4 [.bool true] false]⟩) (by (first | exact wk_same (by (simp only [go_sem, Int.natCast_add, Int.natCast_one, Int.natCast_zero, Int.cast_ofNat_Int])) | exact wk_drop (by (simp only [go_sem, Int.natCast_add, Int.natCast_one, Int.natCast_zero, Int.cast_ofNat_Int])) (by (simp only [go_sem, Int.natCast_add, Int.natCast_one, Int.natCast_zero, Int.cast_ofNat_Int])) (by (simp only [go_sem, Int.natCast_add, Int.natCast_one, Int.natCast_zero, Int.cast_ofNat_Int])) (by (simp only [go_sem, Int.natCast_add, Int.natCast_one, Int.natCast_zero, Int.cast_ofNat_Int])) (by (simp only [go_sem, Int.natCast_add, Int.natCast_one, Int.natCast_zero, Int.cast_ofNat_Int])))) ?_
  refine CV.range rfl (by (simp only [go_sem])) [.box 25 [.lst false 4 (ts.map encT), .lst false 3 (ms.map encM)] false, .box 76 (bestC ts (bestK ts ms c now (2 ^ ts.length))) false, .box 4 [.bool (bestK ts ms c now (2 ^ ts.length)).isNone] false] rfl (by (simp only [go_sem])) (by (simp only [go_sem])) (fun l => ?_) ?_
  · refine (c99 ts ms hv hm h8 c now hc hnow hml l 25 76 4 [.lst false 4 (ts.map encT), .lst false 3 (ms.map encM)] (fun k => bestC ts (bestK ts ms c now k)) (fun k => [.bool (bestK ts ms c now k).isNone]) rfl (fun k => bestC_pure _) (fun k => rfl) 39 #[13] _ _ [(12, .fn 99 [.pp [.lst false 4 (ts.map encT), .lst false 3 (ms.map encM)], .pp [.int .i64 c], .pp [.int .i64 now]]), (3, .lp 0 0), (6, .lp 1 0), (7, .lp 2 0)] (fun b n v _ => by (simp only [go_sem])) (fun n => by simp [belowE, belowV, belowL]) (fun k own hk hr => ?_) (fun k hk hr => ?_)).mono ?_
    · refine HCY.body (H := [.box 25 [.lst false 4 (ts.map encT), .lst false 3 (ms.map encM)] false, .box 76 (bestC ts (bestK ts ms c now k)) false, .box 4 [.bool (bestK ts ms c now k).isNone] false]) (H' := [.box 25 [.lst false 4 (ts.map encT), .lst false 3 (ms.map encM)] false, .box 76 (bestC ts (bestK ts ms c now (k + 1))) false, .box 4 [.bool (bestK ts ms c now (k + 1)).isNone] false]) (by omega) rfl (by (simp only [go_sem])) (by (simp only [go_sem])) rfl ?_
      have hsb := setOf_bounds ts hv k
      cases hbk : bestK ts ms c now k with
      | none =>
        have e : bestK ts ms c now (k + 1) = some (setOf k ts.length) := by simp [bestK, hr, hbk]
        (repeat' (first | ((first | with_reducible refine vcG_split ?_ ?_ | with_reducible refine vcIf_split ?_ ?_ | with_reducible refine vcQ_split ?_ ?_ | with_reducible refine vcDG_split ?_ ?_) <;> intro hb <;> (try rw [hb]) <;> (try simp only [Bool.and_eq_true, Bool.or_eq_true, dtrue, dfalse, Bool.not_eq_true', Bool.not_eq_false', Bool.and_eq_false_iff, Bool.or_eq_false_iff, Bool.not_true, Bool.not_false] at hb) <;> (try simp only [within] at hb) <;> try (simp only [go_sem, hbk, e])) | refine And.intro (by (first | exact trivial | (simp only [I64]; omega) | omega)) ?_ | (with_reducible rw [vc_draw_eq]; first | refine CV.draw (id := 4) [(0, 0), (0, 0), (0, 0), (0, 0), (0, 0), (0, 0), (0, 0), (0, 0), (0, 0), (0, 0), (0, 0), (0, 0), (0, 0), (0, 0), (0, 0), (0, 0), (0, 0), (0, 0), (0, 0), (0, 0), (0, 0), (0, 0), (0, 0)] mixed rfl (by kernel_rfl) ?_) | fail | (simp only [go_sem, hbk, e])))
        exact .base (by (first | exact wk_same (by (simp only [go_sem, Int.natCast_add, Int.natCast_one, Int.natCast_zero, Int.cast_ofNat_Int])) | exact wk_drop (by (simp only [go_sem, Int.natCast_add, Int.natCast_one, Int.natCast_zero, Int.cast_ofNat_Int])) (by (simp only [go_sem, Int.natCast_add, Int.natCast_one, Int.natCast_zero, Int.cast_ofNat_Int])) (by (simp only [go_sem, Int.natCast_add, Int.natCast_one, Int.natCast_zero, Int.cast_ofNat_Int])) (by (simp only [go_sem, Int.natCast_add, Int.natCast_one, Int.natCast_zero, Int.cast_ofNat_Int])) (by (simp only [go_sem, Int.natCast_add, Int.natCast_one, Int.natCast_zero, Int.cast_ofNat_Int]))))
      | some b =>
        have hbb := bestK_bounds ts ms hv c now k b hbk
        have h90 := c90 (setOf k ts.length) b
        have h89 := c89 [costOf ts (setOf k ts.length) - costOf ts b, ((setOf k ts.length).length : Int) - b.length, lexC (setOf k ts.length) b]
        by_cases hbt : better ts (setOf k ts.length) b
        · have e : bestK ts ms c now (k + 1) = some (setOf k ts.length) := by simp [bestK, hr, hbk, hbt]
          have hbt' : orL [costOf ts (setOf k ts.length) - costOf ts b, ((setOf k ts.length).length : Int) - b.length, lexC (setOf k ts.length) b] < 0 := hbt
          (repeat' (first | ((first | with_reducible refine vcG_split ?_ ?_ | with_reducible refine vcIf_split ?_ ?_ | with_reducible refine vcQ_split ?_ ?_ | with_reducible refine vcDG_split ?_ ?_) <;> intro hb <;> (try rw [hb]) <;> (try simp only [Bool.and_eq_true, Bool.or_eq_true, dtrue, dfalse, Bool.not_eq_true', Bool.not_eq_false', Bool.and_eq_false_iff, Bool.or_eq_false_iff, Bool.not_true, Bool.not_false] at hb) <;> (try simp only [within] at hb) <;> try (simp only [go_sem, hbk, e, hbt', implies_true])) | refine And.intro (by (first | exact trivial | (simp only [I64]; omega) | omega)) ?_ | (with_reducible rw [vc_draw_eq]; first | refine CV.draw (id := 4) [(0, 0), (0, 0), (0, 0), (0, 0), (0, 0), (0, 0), (0, 0), (0, 0), (0, 0), (0, 0), (0, 0), (0, 0), (0, 0), (0, 0), (0, 0), (0, 0), (0, 0), (0, 0), (0, 0), (0, 0), (0, 0), (0, 0), (0, 0)] mixed rfl (by kernel_rfl) ?_) | (first | (refine vcP_pure (h90) rfl ?_ ?_ ?_; (focus (first | rfl | ((simp only [go_sem, hbk, e, hbt', implies_true, AV.pureL, AV.pure, pureL_mapI, Bool.and_self]) <;> fail))); (focus (first | ((simp only [go_sem, hbk, e, hbt', implies_true]) <;> fail) | rfl))) | (refine dCallP_pure (h90) rfl ?_ ?_ ?_; (focus (first | rfl | ((simp only [go_sem, hbk, e, hbt', implies_true, AV.pureL, AV.pure, pureL_mapI, Bool.and_self]) <;> fail))); (focus (first | ((simp only [go_sem, hbk, e, hbt', implies_true]) <;> fail) | rfl))) | refine vcP_safe (h90) rfl rfl (by (simp only [go_sem, hbk, e, hbt', implies_true])) ?_ | refine dCallP_safe (h90) rfl rfl ?_ | (refine vcP_pure (h89) rfl ?_ ?_ ?_; (focus (first | rfl | ((simp only [go_sem, hbk, e, hbt', implies_true, AV.pureL, AV.pure, pureL_mapI, Bool.and_self]) <;> fail))); (focus (first | ((simp only [go_sem, hbk, e, hbt', implies_true]) <;> fail) | rfl))) | (refine dCallP_pure (h89) rfl ?_ ?_ ?_; (focus (first | rfl | ((simp only [go_sem, hbk, e, hbt', implies_true, AV.pureL, AV.pure, pureL_mapI, Bool.and_self]) <;> fail))); (focus (first | ((simp only [go_sem, hbk, e, hbt', implies_true]) <;> fail) | rfl))) | refine vcP_safe (h89) rfl rfl (by (simp only [go_sem, hbk, e, hbt', implies_true])) ?_ | refine dCallP_safe (h89) rfl rfl ?_) | (simp only [go_sem, hbk, e, hbt', implies_true])))
          exact .base (by (first | exact wk_same (by (simp only [go_sem, Int.natCast_add, Int.natCast_one, Int.natCast_zero, Int.cast_ofNat_Int])) | exact wk_drop (by (simp only [go_sem, Int.natCast_add, Int.natCast_one, Int.natCast_zero, Int.cast_ofNat_Int])) (by (simp only [go_sem, Int.natCast_add, Int.natCast_one, Int.natCast_zero, Int.cast_ofNat_Int])) (by (simp only [go_sem, Int.natCast_add, Int.natCast_one, Int.natCast_zero, Int.cast_ofNat_Int])) (by (simp only [go_sem, Int.natCast_add, Int.natCast_one, Int.natCast_zero, Int.cast_ofNat_Int])) (by (simp only [go_sem, Int.natCast_add, Int.natCast_one, Int.natCast_zero, Int.cast_ofNat_Int]))))
        · have e : bestK ts ms c now (k + 1) = some b := by simp [bestK, hr, hbk, hbt]
          have hbt' : ¬ orL [costOf ts (setOf k ts.length) - costOf ts b, ((setOf k ts.length).length : Int) - b.length, lexC (setOf k ts.length) b] < 0 := hbt
          (repeat' (first | ((first | with_reducible refine vcG_split ?_ ?_ | with_reducible refine vcIf_split ?_ ?_ | with_reducible refine vcQ_split ?_ ?_ | with_reducible refine vcDG_split ?_ ?_) <;> intro hb <;> (try rw [hb]) <;> (try simp only [Bool.and_eq_true, Bool.or_eq_true, dtrue, dfalse, Bool.not_eq_true', Bool.not_eq_false', Bool.and_eq_false_iff, Bool.or_eq_false_iff, Bool.not_true, Bool.not_false] at hb) <;> (try simp only [within] at hb) <;> try (simp only [go_sem, hbk, e, hbt', implies_true])) | refine And.intro (by (first | exact trivial | (simp only [I64]; omega) | omega)) ?_ | (with_reducible rw [vc_draw_eq]; first | refine CV.draw (id := 4) [(0, 0), (0, 0), (0, 0), (0, 0), (0, 0), (0, 0), (0, 0), (0, 0), (0, 0), (0, 0), (0, 0), (0, 0), (0, 0), (0, 0), (0, 0), (0, 0), (0, 0), (0, 0), (0, 0), (0, 0), (0, 0), (0, 0), (0, 0)] mixed rfl (by kernel_rfl) ?_) | (first | (refine vcP_pure (h90) rfl ?_ ?_ ?_; (focus (first | rfl | ((simp only [go_sem, hbk, e, hbt', implies_true, AV.pureL, AV.pure, pureL_mapI, Bool.and_self]) <;> fail))); (focus (first | ((simp only [go_sem, hbk, e, hbt', implies_true]) <;> fail) | rfl))) | (refine dCallP_pure (h90) rfl ?_ ?_ ?_; (focus (first | rfl | ((simp only [go_sem, hbk, e, hbt', implies_true, AV.pureL, AV.pure, pureL_mapI, Bool.and_self]) <;> fail))); (focus (first | ((simp only [go_sem, hbk, e, hbt', implies_true]) <;> fail) | rfl))) | refine vcP_safe (h90) rfl rfl (by (simp only [go_sem, hbk, e, hbt', implies_true])) ?_ | refine dCallP_safe (h90) rfl rfl ?_ | (refine vcP_pure (h89) rfl ?_ ?_ ?_; (focus (first | rfl | ((simp only [go_sem, hbk, e, hbt', implies_true, AV.pureL, AV.pure, pureL_mapI, Bool.and_self]) <;> fail))); (focus (first | ((simp only [go_sem, hbk, e, hbt', implies_true]) <;> fail) | rfl))) | (refine dCallP_pure (h89) rfl ?_ ?_ ?_; (focus (first | rfl | ((simp only [go_sem, hbk, e, hbt', implies_true, AV.pureL, AV.pure, pureL_mapI, Bool.and_self]) <;> fail))); (focus (first | ((simp only [go_sem, hbk, e, hbt', implies_true]) <;> fail) | rfl))) | refine vcP_safe (h89) rfl rfl (by (simp only [go_sem, hbk, e, hbt', implies_true])) ?_ | refine dCallP_safe (h89) rfl rfl ?_) | (simp only [go_sem, hbk, e, hbt', implies_true])))
          exact .base (by (first | exact wk_same (by (simp only [go_sem, Int.natCast_add, Int.natCast_one, Int.natCast_zero, Int.cast_ofNat_Int])) | exact wk_drop (by (simp only [go_sem, Int.natCast_add, Int.natCast_one, Int.natCast_zero, Int.cast_ofNat_Int])) (by (simp only [go_sem, Int.natCast_add, Int.natCast_one, Int.natCast_zero, Int.cast_ofNat_Int])) (by (simp only [go_sem, Int.natCast_add, Int.natCast_one, Int.natCast_zero, Int.cast_ofNat_Int])) (by (simp only [go_sem, Int.natCast_add, Int.natCast_one, Int.natCast_zero, Int.cast_ofNat_Int])) (by (simp only [go_sem, Int.natCast_add, Int.natCast_one, Int.natCast_zero, Int.cast_ofNat_Int]))))
    · have e : bestK ts ms c now (k + 1) = bestK ts ms c now k := by simp [bestK, hr]
      simp only [e, and_self]
    · rintro r H' ⟨rest, e⟩
      exact ⟨rest, by rw [e]; rfl⟩
  · cases hbk : bestK ts ms c now (2 ^ ts.length) with
    | none => (repeat' (first | ((first | with_reducible refine vcG_split ?_ ?_ | with_reducible refine vcIf_split ?_ ?_ | with_reducible refine vcQ_split ?_ ?_ | with_reducible refine vcDG_split ?_ ?_) <;> intro hb <;> (try rw [hb]) <;> (try simp only [Bool.and_eq_true, Bool.or_eq_true, dtrue, dfalse, Bool.not_eq_true', Bool.not_eq_false', Bool.and_eq_false_iff, Bool.or_eq_false_iff, Bool.not_true, Bool.not_false] at hb) <;> (try simp only [within] at hb) <;> try (simp only [go_sem, hbk, Option.getD_none, costOf])) | refine And.intro (by (first | exact trivial | (simp only [I64]; omega) | omega)) ?_ | (with_reducible rw [vc_draw_eq]; first | refine CV.draw (id := 4) [(0, 0), (0, 0), (0, 0), (0, 0), (0, 0), (0, 0), (0, 0), (0, 0), (0, 0), (0, 0), (0, 0), (0, 0), (0, 0), (0, 0), (0, 0), (0, 0), (0, 0), (0, 0), (0, 0), (0, 0), (0, 0), (0, 0), (0, 0)] mixed rfl (by kernel_rfl) ?_) | fail | (simp only [go_sem, hbk, Option.getD_none, costOf])))
    | some b => (repeat' (first | ((first | with_reducible refine vcG_split ?_ ?_ | with_reducible refine vcIf_split ?_ ?_ | with_reducible refine vcQ_split ?_ ?_ | with_reducible refine vcDG_split ?_ ?_) <;> intro hb <;> (try rw [hb]) <;> (try simp only [Bool.and_eq_true, Bool.or_eq_true, dtrue, dfalse, Bool.not_eq_true', Bool.not_eq_false', Bool.and_eq_false_iff, Bool.or_eq_false_iff, Bool.not_true, Bool.not_false] at hb) <;> (try simp only [within] at hb) <;> try (simp only [go_sem, hbk, Option.getD_some])) | refine And.intro (by (first | exact trivial | (simp only [I64]; omega) | omega)) ?_ | (with_reducible rw [vc_draw_eq]; first | refine CV.draw (id := 4) [(0, 0), (0, 0), (0, 0), (0, 0), (0, 0), (0, 0), (0, 0), (0, 0), (0, 0), (0, 0), (0, 0), (0, 0), (0, 0), (0, 0), (0, 0), (0, 0), (0, 0), (0, 0), (0, 0), (0, 0), (0, 0), (0, 0), (0, 0)] mixed rfl (by kernel_rfl) ?_) | fail | (simp only [go_sem, hbk, Option.getD_some])))
end Go.Proofs.Ytllmohmgakdbdaa
