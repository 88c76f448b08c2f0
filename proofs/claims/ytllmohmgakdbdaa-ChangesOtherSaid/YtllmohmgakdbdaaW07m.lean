/- Contracts of functions of the given program, without a condition beyond those that each theorem states; they lead to the given statement. -/
import Derived.Test.YtllmohmgakdbdaaW07l
set_option linter.unusedSimpArgs false
set_option linter.unusedVariables false
set_option maxRecDepth 100000
namespace Go.Proofs.Ytllmohmgakdbdaa
open Go Go.Fl
open Classical
def gv (s : List Int) (i : Int) : Int := (s[i.toNat]?).getD 0
theorem gv_get {s : List Int} {i : Int} (h : i.toNat < s.length) : s[i.toNat]? = some (gv s i) := by
  obtain ⟨a, ha⟩ := get_of h; simp [gv, ha]
theorem PC.dec {P : Program} {g : FuncId} {a : List AV} {p : Prop} {i j : Decidable p} (h : PC P g a (.bool (@decide p i))) : PC P g a (.bool (@decide p j)) := by
  have : i = j := Subsingleton.elim _ _
  subst this; exact h
theorem d73 (ts : List Thing) (ms : List Mark) (c : Int) (s b : List Int) (h8 : s.length = 8) (i m : Int) (hi : 0 ≤ i ∧ i < 8) : PC Try.prog 73 [hX ts ms c s b, .int .i64 i, .int .i64 m] (.bool (decide (gv s i ≤ m))) :=
  c73 ts ms c s b h8 i m _ hi (gv_get (by omega))
theorem c92 (ts : List Thing) (ms : List Mark) (c : Int) (s b : List Int) (h8 : s.length = 8) (n : Nat) (hn : n < 8) (t : Thing) : PC Try.prog 92 [.int .i64 n, .agg (encT t), .pp [hX ts ms c s b]] (.bool (decide (t.prints = 1 ∧ ¬ gv s n ≤ 99))) := by
  simp only [encT]
  refine PC.body Try.func92 (by kernel_rfl) rfl (by simp [Try.f92]) rfl ?_
  simp only [Try.f92]
  intro hlen
  simp only [go_sem, List.length_map, and_true, true_and] at hlen
  refine CV.run ?_
  (repeat' (first | ((first | with_reducible refine vcG_split ?_ ?_ | with_reducible refine vcIf_split ?_ ?_ | with_reducible refine vcQ_split ?_ ?_ | with_reducible refine vcDG_split ?_ ?_) <;> intro hb <;> (try rw [hb]) <;> (try simp only [Bool.and_eq_true, Bool.or_eq_true, dtrue, dfalse, Bool.not_eq_true', Bool.not_eq_false', Bool.and_eq_false_iff, Bool.or_eq_false_iff, Bool.not_true, Bool.not_false] at hb) <;> (try simp only [within] at hb) <;> try (simp only [go_sem, pureL_I, frL_I, frzL_I])) | refine And.intro (by (first | exact trivial | (simp only [I64]; omega) | omega)) ?_ | (first | (refine vcP_pure (d73 ts ms c s b h8 _ _ ⟨by omega, by omega⟩) rfl ?_ ?_ ?_; (focus (first | rfl | ((simp only [go_sem, pureL_I, frL_I, frzL_I, AV.pureL, AV.pure, pureL_mapI, Bool.and_self]) <;> fail))); (focus (first | ((simp only [go_sem, pureL_I, frL_I, frzL_I]) <;> fail) | rfl))) | (refine dCallP_pure (d73 ts ms c s b h8 _ _ ⟨by omega, by omega⟩) rfl ?_ ?_ ?_; (focus (first | rfl | ((simp only [go_sem, pureL_I, frL_I, frzL_I, AV.pureL, AV.pure, pureL_mapI, Bool.and_self]) <;> fail))); (focus (first | ((simp only [go_sem, pureL_I, frL_I, frzL_I]) <;> fail) | rfl))) | refine vcP_safe (d73 ts ms c s b h8 _ _ ⟨by omega, by omega⟩) rfl rfl (by (simp only [go_sem, pureL_I, frL_I, frzL_I])) ?_ | refine dCallP_safe (d73 ts ms c s b h8 _ _ ⟨by omega, by omega⟩) rfl rfl ?_) | (simp only [go_sem, pureL_I, frL_I, frzL_I])))
  all_goals first
    | exact bn (by simp_all)
    | exact bd (by simp_all)
    | exact bf (by simp_all)
    | exact bt (by simp_all)
theorem c72 (ts : List Thing) (ms : List Mark) (c : Int) (s b : List Int) (h8 : s.length = 8) (n : Nat) (hn : n < 8) (t : Thing) : PC Try.prog 72 [.int .i64 n, .agg (encT t), .pp [hX ts ms c s b]] (.bool (decide (gv s n ≤ 99))) := by
  simp only [encT]
  refine PC.body Try.func72 (by kernel_rfl) rfl (by simp [Try.f72]) rfl ?_
  simp only [Try.f72]
  intro hlen
  simp only [go_sem, List.length_map, and_true, true_and] at hlen
  refine CV.run ?_
  (repeat' (first | ((first | with_reducible refine vcG_split ?_ ?_ | with_reducible refine vcIf_split ?_ ?_ | with_reducible refine vcQ_split ?_ ?_ | with_reducible refine vcDG_split ?_ ?_) <;> intro hb <;> (try rw [hb]) <;> (try simp only [Bool.and_eq_true, Bool.or_eq_true, dtrue, dfalse, Bool.not_eq_true', Bool.not_eq_false', Bool.and_eq_false_iff, Bool.or_eq_false_iff, Bool.not_true, Bool.not_false] at hb) <;> (try simp only [within] at hb) <;> try (simp only [go_sem, pureL_I, frL_I, frzL_I])) | refine And.intro (by (first | exact trivial | (simp only [I64]; omega) | omega)) ?_ | (first | (refine vcP_pure (d73 ts ms c s b h8 _ _ ⟨by omega, by omega⟩) rfl ?_ ?_ ?_; (focus (first | rfl | ((simp only [go_sem, pureL_I, frL_I, frzL_I, AV.pureL, AV.pure, pureL_mapI, Bool.and_self]) <;> fail))); (focus (first | ((simp only [go_sem, pureL_I, frL_I, frzL_I]) <;> fail) | rfl))) | (refine dCallP_pure (d73 ts ms c s b h8 _ _ ⟨by omega, by omega⟩) rfl ?_ ?_ ?_; (focus (first | rfl | ((simp only [go_sem, pureL_I, frL_I, frzL_I, AV.pureL, AV.pure, pureL_mapI, Bool.and_self]) <;> fail))); (focus (first | ((simp only [go_sem, pureL_I, frL_I, frzL_I]) <;> fail) | rfl))) | refine vcP_safe (d73 ts ms c s b h8 _ _ ⟨by omega, by omega⟩) rfl rfl (by (simp only [go_sem, pureL_I, frL_I, frzL_I])) ?_ | refine dCallP_safe (d73 ts ms c s b h8 _ _ ⟨by omega, by omega⟩) rfl rfl ?_) | (simp only [go_sem, pureL_I, frL_I, frzL_I])))
  all_goals first
    | exact bn (by simp_all)
    | exact bd (by simp_all)
    | exact bf (by simp_all)
    | exact bt (by simp_all)
theorem c70 (ts : List Thing) (ms : List Mark) (c : Int) (s b : List Int) (n : Nat) (t : Thing) (ht : ts[n]? = some t) (m : Int) : PC Try.prog 70 [.int .i64 n, .agg (encT t), .pp [hX ts ms c s b], .pp [.int .i64 m]] (.bool (decide (t.prints = 1 ∧ t.at_ ≤ m))) := by
  simp only [encT]
  refine PC.body Try.func70 (by kernel_rfl) rfl (by simp [Try.f70]) rfl ?_
  simp only [Try.f70]
  intro hlen
  simp only [go_sem, List.length_map, and_true, true_and] at hlen
  refine CV.run ?_
  (repeat' (first | ((first | with_reducible refine vcG_split ?_ ?_ | with_reducible refine vcIf_split ?_ ?_ | with_reducible refine vcQ_split ?_ ?_ | with_reducible refine vcDG_split ?_ ?_) <;> intro hb <;> (try rw [hb]) <;> (try simp only [Bool.and_eq_true, Bool.or_eq_true, dtrue, dfalse, Bool.not_eq_true', Bool.not_eq_false', Bool.and_eq_false_iff, Bool.or_eq_false_iff, Bool.not_true, Bool.not_false] at hb) <;> (try simp only [within] at hb) <;> try (simp only [go_sem, pureL_I, frL_I, frzL_I])) | refine And.intro (by (first | exact trivial | (simp only [I64]; omega) | omega)) ?_ | (first | (refine vcP_pure (c71 ts ms c s b n m t (by omega) (by simpa using ht)) rfl ?_ ?_ ?_; (focus (first | rfl | ((simp only [go_sem, pureL_I, frL_I, frzL_I, AV.pureL, AV.pure, pureL_mapI, Bool.and_self]) <;> fail))); (focus (first | ((simp only [go_sem, pureL_I, frL_I, frzL_I]) <;> fail) | rfl))) | (refine dCallP_pure (c71 ts ms c s b n m t (by omega) (by simpa using ht)) rfl ?_ ?_ ?_; (focus (first | rfl | ((simp only [go_sem, pureL_I, frL_I, frzL_I, AV.pureL, AV.pure, pureL_mapI, Bool.and_self]) <;> fail))); (focus (first | ((simp only [go_sem, pureL_I, frL_I, frzL_I]) <;> fail) | rfl))) | refine vcP_safe (c71 ts ms c s b n m t (by omega) (by simpa using ht)) rfl rfl (by (simp only [go_sem, pureL_I, frL_I, frzL_I])) ?_ | refine dCallP_safe (c71 ts ms c s b n m t (by omega) (by simpa using ht)) rfl rfl ?_) | (simp only [go_sem, pureL_I, frL_I, frzL_I])))
  all_goals first
    | exact bn (by simp_all)
    | exact bd (by simp_all)
    | exact bf (by simp_all)
    | exact bt (by simp_all)
theorem c94 (ts : List Thing) (ms : List Mark) (c : Int) (s b : List Int) (h8 : s.length = 8) (n m : Int) (hn : 0 ≤ n ∧ n < 8) : PC Try.prog 94 [.int .i64 n, .pp [hX ts ms c s b], .pp [.int .i64 m]] (.bool (decide (gv s n ≤ m))) := by
  refine PC.body Try.func94 (by kernel_rfl) rfl (by simp [Try.f94]) rfl ?_
  simp only [Try.f94]
  intro hlen
  simp only [go_sem, List.length_map, and_true, true_and] at hlen
  refine CV.run ?_
  (repeat' (first | ((first | with_reducible refine vcG_split ?_ ?_ | with_reducible refine vcIf_split ?_ ?_ | with_reducible refine vcQ_split ?_ ?_ | with_reducible refine vcDG_split ?_ ?_) <;> intro hb <;> (try rw [hb]) <;> (try simp only [Bool.and_eq_true, Bool.or_eq_true, dtrue, dfalse, Bool.not_eq_true', Bool.not_eq_false', Bool.and_eq_false_iff, Bool.or_eq_false_iff, Bool.not_true, Bool.not_false] at hb) <;> (try simp only [within] at hb) <;> try (simp only [go_sem, pureL_I, frL_I, frzL_I])) | refine And.intro (by (first | exact trivial | (simp only [I64]; omega) | omega)) ?_ | (first | (refine vcP_pure (d73 ts ms c s b h8 _ _ hn) rfl ?_ ?_ ?_; (focus (first | rfl | ((simp only [go_sem, pureL_I, frL_I, frzL_I, AV.pureL, AV.pure, pureL_mapI, Bool.and_self]) <;> fail))); (focus (first | ((simp only [go_sem, pureL_I, frL_I, frzL_I]) <;> fail) | rfl))) | (refine dCallP_pure (d73 ts ms c s b h8 _ _ hn) rfl ?_ ?_ ?_; (focus (first | rfl | ((simp only [go_sem, pureL_I, frL_I, frzL_I, AV.pureL, AV.pure, pureL_mapI, Bool.and_self]) <;> fail))); (focus (first | ((simp only [go_sem, pureL_I, frL_I, frzL_I]) <;> fail) | rfl))) | refine vcP_safe (d73 ts ms c s b h8 _ _ hn) rfl rfl (by (simp only [go_sem, pureL_I, frL_I, frzL_I])) ?_ | refine dCallP_safe (d73 ts ms c s b h8 _ _ hn) rfl rfl ?_) | (simp only [go_sem, pureL_I, frL_I, frzL_I])))
  all_goals first
    | exact bn (by simp_all)
    | exact bd (by simp_all)
    | exact bf (by simp_all)
    | exact bt (by simp_all)
theorem c96 (ts : List Thing) (ms : List Mark) (c : Int) (s b : List Int) (h8 : s.length = 8) (n m : Int) (hn : 0 ≤ n ∧ n < 8) : PC Try.prog 96 [.int .i64 n, .pp [.fn 94 [.pp [hX ts ms c s b], .pp [.int .i64 m]]]] (.bool (decide (¬ gv s n ≤ m))) := by
  refine PC.body Try.func96 (by kernel_rfl) rfl (by simp [Try.f96]) rfl ?_
  simp only [Try.f96]
  intro hlen
  simp only [go_sem, List.length_map, and_true, true_and] at hlen
  refine CV.run ?_
  (repeat' (first | ((first | with_reducible refine vcG_split ?_ ?_ | with_reducible refine vcIf_split ?_ ?_ | with_reducible refine vcQ_split ?_ ?_ | with_reducible refine vcDG_split ?_ ?_) <;> intro hb <;> (try rw [hb]) <;> (try simp only [Bool.and_eq_true, Bool.or_eq_true, dtrue, dfalse, Bool.not_eq_true', Bool.not_eq_false', Bool.and_eq_false_iff, Bool.or_eq_false_iff, Bool.not_true, Bool.not_false] at hb) <;> (try simp only [within] at hb) <;> try (simp only [go_sem, pureL_I, frL_I, frzL_I])) | refine And.intro (by (first | exact trivial | (simp only [I64]; omega) | omega)) ?_ | (first | (refine vcP_pure (c94 ts ms c s b h8 _ _ hn) rfl ?_ ?_ ?_; (focus (first | rfl | ((simp only [go_sem, pureL_I, frL_I, frzL_I, AV.pureL, AV.pure, pureL_mapI, Bool.and_self]) <;> fail))); (focus (first | ((simp only [go_sem, pureL_I, frL_I, frzL_I]) <;> fail) | rfl))) | (refine dCallP_pure (c94 ts ms c s b h8 _ _ hn) rfl ?_ ?_ ?_; (focus (first | rfl | ((simp only [go_sem, pureL_I, frL_I, frzL_I, AV.pureL, AV.pure, pureL_mapI, Bool.and_self]) <;> fail))); (focus (first | ((simp only [go_sem, pureL_I, frL_I, frzL_I]) <;> fail) | rfl))) | refine vcP_safe (c94 ts ms c s b h8 _ _ hn) rfl rfl (by (simp only [go_sem, pureL_I, frL_I, frzL_I])) ?_ | refine dCallP_safe (c94 ts ms c s b h8 _ _ hn) rfl rfl ?_) | (simp only [go_sem, pureL_I, frL_I, frzL_I])))
  all_goals first
    | exact bn (by simp_all)
    | exact bd (by simp_all)
    | exact bf (by simp_all)
    | exact bt (by simp_all)
theorem c102 (ms : List Int) (g : Nat) (caps : List AV) (hcp : AV.pureL caps = true) (hfr : ∀ h H, frL h H caps = caps) (q : Int → Prop) (hf : ∀ m, m ∈ ms → PC Try.prog g (.int .i64 m :: caps) (.bool (decide (q m)))) : PC Try.prog 102 [lN ms, .fn g caps] (.int .i64 (ix q ms)) := by
  refine PC.body Try.func102 (by kernel_rfl) rfl (by simp [Try.f102]) rfl ?_
  simp only [Try.f102]
  intro hlen
  simp only [go_sem, List.length_map, and_true, true_and] at hlen
  refine CV.run ?_
  (repeat' (first | ((first | with_reducible refine vcG_split ?_ ?_ | with_reducible refine vcIf_split ?_ ?_ | with_reducible refine vcQ_split ?_ ?_ | with_reducible refine vcDG_split ?_ ?_) <;> intro hb <;> (try rw [hb]) <;> (try simp only [Bool.and_eq_true, Bool.or_eq_true, dtrue, dfalse, Bool.not_eq_true', Bool.not_eq_false', Bool.and_eq_false_iff, Bool.or_eq_false_iff, Bool.not_true, Bool.not_false] at hb) <;> (try simp only [within] at hb) <;> try (simp only [go_sem])) | refine And.intro (by (first | exact trivial | (simp only [I64]; omega) | omega)) ?_ | fail | (simp only [go_sem])))
  refine vc_for (fun j => ⟨[(8, .int .i64 j), (7, .int .i64 ms.length), (4, .int .i64 0), (0, lN ms), (1, .fn g caps)], []⟩) ms.length (fun j => ∀ i, i < j → ∀ b, ms[i]? = some b → ¬ q b) (by (first | exact wk_same (by (simp only [go_sem, Int.natCast_add, Int.natCast_one, Int.natCast_zero, Int.cast_ofNat_Int])) | exact wk_drop (by (simp only [go_sem, Int.natCast_add, Int.natCast_one, Int.natCast_zero, Int.cast_ofNat_Int])) (by (simp only [go_sem, Int.natCast_add, Int.natCast_one, Int.natCast_zero, Int.cast_ofNat_Int])) (by (simp only [go_sem, Int.natCast_add, Int.natCast_one, Int.natCast_zero, Int.cast_ofNat_Int])) (by (simp only [go_sem, Int.natCast_add, Int.natCast_one, Int.natCast_zero, Int.cast_ofNat_Int])) (by (simp only [go_sem, Int.natCast_add, Int.natCast_one, Int.natCast_zero, Int.cast_ofNat_Int])))) (fun i h => by omega) ?_
  intro j hj hx
  rcases Nat.lt_or_ge j ms.length with hlt | hge
  · obtain ⟨m, hm⟩ := get_of hlt
    have hlt' : (j : Int) < ms.length := by omega
    have hmm := List.mem_of_getElem? hm
    have hfm := hf m hmm
    have hfz := frzL_self [] caps hcp
    (repeat' (first | ((first | with_reducible refine vcG_split ?_ ?_ | with_reducible refine vcIf_split ?_ ?_ | with_reducible refine vcQ_split ?_ ?_ | with_reducible refine vcDG_split ?_ ?_) <;> intro hb <;> (try rw [hb]) <;> (try simp only [Bool.and_eq_true, Bool.or_eq_true, dtrue, dfalse, Bool.not_eq_true', Bool.not_eq_false', Bool.and_eq_false_iff, Bool.or_eq_false_iff, Bool.not_true, Bool.not_false] at hb) <;> (try simp only [within] at hb) <;> try (simp only [go_sem, hlt', hm, encN, hcp, hfr, hfz])) | refine And.intro (by (first | exact trivial | (simp only [I64]; omega) | omega)) ?_ | (first | (refine vcP_pure (hfm) rfl ?_ ?_ ?_; (focus (first | rfl | ((simp only [go_sem, hlt', hm, encN, hcp, hfr, hfz, AV.pureL, AV.pure, pureL_mapI, Bool.and_self]) <;> fail))); (focus (first | ((simp only [go_sem, hlt', hm, encN, hcp, hfr, hfz]) <;> fail) | rfl))) | (refine dCallP_pure (hfm) rfl ?_ ?_ ?_; (focus (first | rfl | ((simp only [go_sem, hlt', hm, encN, hcp, hfr, hfz, AV.pureL, AV.pure, pureL_mapI, Bool.and_self]) <;> fail))); (focus (first | ((simp only [go_sem, hlt', hm, encN, hcp, hfr, hfz]) <;> fail) | rfl))) | refine vcP_safe (hfm) rfl rfl (by (simp only [go_sem, hlt', hm, encN, hcp, hfr, hfz])) ?_ | refine dCallP_safe (hfm) rfl rfl ?_) | (simp only [go_sem, hlt', hm, encN, hcp, hfr, hfz])))
    · rw [ix_at ⟨⟨m, hm, hb⟩, hx⟩]
    · refine ⟨by (first | exact wk_same (by (simp only [go_sem, Int.natCast_add, Int.natCast_one, Int.natCast_zero, Int.cast_ofNat_Int])) | exact wk_drop (by (simp only [go_sem, Int.natCast_add, Int.natCast_one, Int.natCast_zero, Int.cast_ofNat_Int])) (by (simp only [go_sem, Int.natCast_add, Int.natCast_one, Int.natCast_zero, Int.cast_ofNat_Int])) (by (simp only [go_sem, Int.natCast_add, Int.natCast_one, Int.natCast_zero, Int.cast_ofNat_Int])) (by (simp only [go_sem, Int.natCast_add, Int.natCast_one, Int.natCast_zero, Int.cast_ofNat_Int])) (by (simp only [go_sem, Int.natCast_add, Int.natCast_one, Int.natCast_zero, Int.cast_ofNat_Int]))), fun i hi b hib => ?_⟩
      rcases Nat.lt_or_ge i j with h | h
      · exact hx i h b hib
      · have : i = j := by omega
        subst this
        rw [hm] at hib; cases hib; exact hb
  · have hge' : ¬ (j : Int) < ms.length := by omega
    (repeat' (first | ((first | with_reducible refine vcG_split ?_ ?_ | with_reducible refine vcIf_split ?_ ?_ | with_reducible refine vcQ_split ?_ ?_ | with_reducible refine vcDG_split ?_ ?_) <;> intro hb <;> (try rw [hb]) <;> (try simp only [Bool.and_eq_true, Bool.or_eq_true, dtrue, dfalse, Bool.not_eq_true', Bool.not_eq_false', Bool.and_eq_false_iff, Bool.or_eq_false_iff, Bool.not_true, Bool.not_false] at hb) <;> (try simp only [within] at hb) <;> try (simp only [go_sem, hge'])) | refine And.intro (by (first | exact trivial | (simp only [I64]; omega) | omega)) ?_ | fail | (simp only [go_sem, hge'])))
    rw [ix_no (fun i b hb => hx i (by have := (List.getElem?_eq_some_iff.1 hb).1; omega) b hb)]
theorem c95 (ms : List Int) (g : Nat) (caps : List AV) (hcp : AV.pureL caps = true) (hfr : ∀ h H, frL h H caps = caps) (q : Int → Prop) (hf : ∀ m, m ∈ ms → PC Try.prog g (.int .i64 m :: caps) (.bool (decide (q m)))) : PC Try.prog 95 [lN ms, .fn g caps] (.bool (decide (∃ m, m ∈ ms ∧ q m))) := by
  have hfz := frzL_self [] caps hcp
  refine PC.body Try.func95 (by kernel_rfl) rfl (by simp [Try.f95]) rfl ?_
  simp only [Try.f95]
  intro hlen
  simp only [go_sem, List.length_map, and_true, true_and] at hlen
  refine CV.run ?_
  (repeat' (first | ((first | with_reducible refine vcG_split ?_ ?_ | with_reducible refine vcIf_split ?_ ?_ | with_reducible refine vcQ_split ?_ ?_ | with_reducible refine vcDG_split ?_ ?_) <;> intro hb <;> (try rw [hb]) <;> (try simp only [Bool.and_eq_true, Bool.or_eq_true, dtrue, dfalse, Bool.not_eq_true', Bool.not_eq_false', Bool.and_eq_false_iff, Bool.or_eq_false_iff, Bool.not_true, Bool.not_false] at hb) <;> (try simp only [within] at hb) <;> try (simp only [go_sem, hcp, hfr, hfz])) | refine And.intro (by (first | exact trivial | (simp only [I64]; omega) | omega)) ?_ | (first | (refine vcP_pure (c102 ms g caps hcp hfr q hf) rfl ?_ ?_ ?_; (focus (first | rfl | ((simp only [go_sem, hcp, hfr, hfz, AV.pureL, AV.pure, pureL_mapI, Bool.and_self]) <;> fail))); (focus (first | ((simp only [go_sem, hcp, hfr, hfz]) <;> fail) | rfl))) | (refine dCallP_pure (c102 ms g caps hcp hfr q hf) rfl ?_ ?_ ?_; (focus (first | rfl | ((simp only [go_sem, hcp, hfr, hfz, AV.pureL, AV.pure, pureL_mapI, Bool.and_self]) <;> fail))); (focus (first | ((simp only [go_sem, hcp, hfr, hfz]) <;> fail) | rfl))) | refine vcP_safe (c102 ms g caps hcp hfr q hf) rfl rfl (by (simp only [go_sem, hcp, hfr, hfz])) ?_ | refine dCallP_safe (c102 ms g caps hcp hfr q hf) rfl rfl ?_) | (simp only [go_sem, hcp, hfr, hfz])))
  exact bd ix_ge
def mixes (s : List Int) (m : Int) (l : List Int) : Prop := (∃ n, n ∈ l ∧ gv s n ≤ m) ∧ ∃ n, n ∈ l ∧ ¬ gv s n ≤ m
theorem c68 (ts : List Thing) (ms : List Mark) (c : Int) (s b : List Int) (h8 : s.length = 8) (m : Int) (l : List Int) (hl : ∀ n, n ∈ l → 0 ≤ n ∧ n < 8) : PC Try.prog 68 [hX ts ms c s b, lN l, .int .i64 m] (.bool (decide (mixes s m l))) := by
  have h1 := c95 l 94 [.pp [hX ts ms c s b], .pp [.int .i64 m]] (by simp [AV.pureL, AV.pure]) (by intro h H; simp [frL, frV]) (fun n => gv s n ≤ m) (fun n hn => PC.dec (c94 ts ms c s b h8 n m (hl n hn)))
  have h2 := c95 l 96 [.pp [.fn 94 [.pp [hX ts ms c s b], .pp [.int .i64 m]]]] (by simp [AV.pureL, AV.pure]) (by intro h H; simp [frL, frV]) (fun n => ¬ gv s n ≤ m) (fun n hn => PC.dec (c96 ts ms c s b h8 n m (hl n hn)))
  refine PC.body Try.func68 (by kernel_rfl) rfl (by simp [Try.f68]) rfl ?_
  simp only [Try.f68]
  intro hlen
  simp only [go_sem, List.length_map, and_true, true_and] at hlen
  refine CV.run ?_
  (repeat' (first | ((first | with_reducible refine vcG_split ?_ ?_ | with_reducible refine vcIf_split ?_ ?_ | with_reducible refine vcQ_split ?_ ?_ | with_reducible refine vcDG_split ?_ ?_) <;> intro hb <;> (try rw [hb]) <;> (try simp only [Bool.and_eq_true, Bool.or_eq_true, dtrue, dfalse, Bool.not_eq_true', Bool.not_eq_false', Bool.and_eq_false_iff, Bool.or_eq_false_iff, Bool.not_true, Bool.not_false] at hb) <;> (try simp only [within] at hb) <;> try (simp only [go_sem, pureL_I, frL_I, frzL_I])) | refine And.intro (by (first | exact trivial | (simp only [I64]; omega) | omega)) ?_ | (first | (refine vcP_pure (h1) rfl ?_ ?_ ?_; (focus (first | rfl | ((simp only [go_sem, pureL_I, frL_I, frzL_I, AV.pureL, AV.pure, pureL_mapI, Bool.and_self]) <;> fail))); (focus (first | ((simp only [go_sem, pureL_I, frL_I, frzL_I]) <;> fail) | rfl))) | (refine dCallP_pure (h1) rfl ?_ ?_ ?_; (focus (first | rfl | ((simp only [go_sem, pureL_I, frL_I, frzL_I, AV.pureL, AV.pure, pureL_mapI, Bool.and_self]) <;> fail))); (focus (first | ((simp only [go_sem, pureL_I, frL_I, frzL_I]) <;> fail) | rfl))) | refine vcP_safe (h1) rfl rfl (by (simp only [go_sem, pureL_I, frL_I, frzL_I])) ?_ | refine dCallP_safe (h1) rfl rfl ?_ | (refine vcP_pure (h2) rfl ?_ ?_ ?_; (focus (first | rfl | ((simp only [go_sem, pureL_I, frL_I, frzL_I, AV.pureL, AV.pure, pureL_mapI, Bool.and_self]) <;> fail))); (focus (first | ((simp only [go_sem, pureL_I, frL_I, frzL_I]) <;> fail) | rfl))) | (refine dCallP_pure (h2) rfl ?_ ?_ ?_; (focus (first | rfl | ((simp only [go_sem, pureL_I, frL_I, frzL_I, AV.pureL, AV.pure, pureL_mapI, Bool.and_self]) <;> fail))); (focus (first | ((simp only [go_sem, pureL_I, frL_I, frzL_I]) <;> fail) | rfl))) | refine vcP_safe (h2) rfl rfl (by (simp only [go_sem, pureL_I, frL_I, frzL_I])) ?_ | refine dCallP_safe (h2) rfl rfl ?_) | (simp only [go_sem, pureL_I, frL_I, frzL_I])))
  · exact bd (by unfold mixes; exact ⟨fun h => ⟨hb, h⟩, fun h => h.2⟩)
  · exact bf fun h => hb h.1
end Go.Proofs.Ytllmohmgakdbdaa
