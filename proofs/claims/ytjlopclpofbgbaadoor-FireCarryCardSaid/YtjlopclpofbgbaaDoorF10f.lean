/- Contracts of functions of the given program, without a condition beyond those that each theorem states; they lead to the given statement. -/
import Derived.Test.YtjlopclpofbgbaaDoorF10e
import Derived.Test.YtjlopclpofbgbaaDoorFlB
set_option linter.unusedSimpArgs false
set_option linter.unusedVariables false
set_option maxRecDepth 100000
namespace Go.Proofs.YtjlopclpofbgbaaDoor
open Go Go.Fl
open Classical
def sF10f_f101_1 : List (Nat × Nat) := [(0, 0), (0, 0), (0, 0), (0, 0), (0, 0), (0, 0), (0, 0), (0, 0), (0, 0), (0, 0), (0, 0), (0, 0), (0, 0), (0, 0)]
theorem d73 (ts : List Thing) (ms : List Mark) (c : Int) (s b : List Int) (h8 : s.length = 8) (i m : Int) (hi : 0 ≤ i ∧ i < 8) : PC Tryd.prog 123 [hX ts ms c s b, .int .i64 i, .int .i64 m] (.bool (decide (gv s i ≤ m))) :=
  c123 ts ms c s b h8 i m _ hi (gv_get (by omega))
theorem mkStep_le (ms : List Mark) (i c m : Int) (n : Nat) (a : Mark) (x : Int × Int) : (mkStep ms i c n a x).1 ≤ m ↔ x.1 ≤ m ∨ (a.thing = i ∧ a.change = c ∧ a.at_ ≤ m) := by
  unfold mkStep
  split
  · rename_i h
    obtain ⟨h1, h2, h3⟩ := h
    simp only [h1, h2, true_and]
    rcases h3 with h3 | ⟨h3, _⟩ <;> constructor <;> intro h <;> omega
  · rename_i h
    constructor
    · exact .inl
    · rintro (h1 | ⟨h1, h2, h3⟩)
      · exact h1
      · rcases Int.lt_trichotomy a.at_ x.1 with hl | hl | hl
        · exact absurd ⟨h1, h2, .inl hl⟩ h
        · omega
        · omega
theorem mk_le (ms : List Mark) (i c m : Int) (x : Int × Int) : ∀ n, n ≤ ms.length → ((mk ms i c n x).1 ≤ m ↔ x.1 ≤ m ∨ ∃ (k : Nat) (a : Mark), k < n ∧ ms[k]? = some a ∧ a.thing = i ∧ a.change = c ∧ a.at_ ≤ m)
  | 0, _ => by simp [mk]
  | n + 1, hn => by
    obtain ⟨a, ha⟩ := get_of (l := ms) (j := n) (by omega)
    simp only [mk, ha, mkStep_le]
    rw [mk_le ms i c m x n (by omega)]
    constructor
    · rintro ((h | ⟨k, b, h1, h2⟩) | h)
      · exact .inl h
      · exact .inr ⟨k, b, by omega, h2⟩
      · exact .inr ⟨n, a, by omega, ha, h⟩
    · rintro (h | ⟨k, b, h1, h2, h3⟩)
      · exact .inl (.inl h)
      · rcases Nat.lt_or_ge k n with hk | hk
        · exact .inl (.inr ⟨k, b, hk, h2, h3⟩)
        · have : k = n := by omega
          subst this
          rw [ha] at h2; cases h2
          exact .inr h3
theorem fo_lt (ts : List Thing) (ms : List Mark) (c : Int) (i : Nat) : ∀ n, i < n → gv (fo ts ms c n).1 i = gv (fo ts ms c (i + 1)).1 i ∧ gv (fo ts ms c n).2 i = gv (fo ts ms c (i + 1)).2 i
  | 0, h => by omega
  | n + 1, h => by
    rcases Nat.lt_or_ge i n with hl | hl
    · rw [← (fo_lt ts ms c i n hl).1, ← (fo_lt ts ms c i n hl).2]
      rw [fo.eq_def ts ms c (n + 1)]
      simp only
      split
      · simp only [gv, Int.toNat_natCast]
        rw [List.getElem?_set_ne (by omega), List.getElem?_set_ne (by omega)]; simp
      · simp
    · have : i = n := by omega
      subst this; simp
theorem fo_at (ts : List Thing) (ms : List Mark) (c : Int) (i : Nat) (t : Thing) (ht : ts[i]? = some t) (h8 : i < 8) : gv (fo ts ms c (i + 1)).1 i = (mk ms i c ms.length (init (fo ts ms c i).1 (fo ts ms c i).2 t)).1 ∧ gv (fo ts ms c (i + 1)).2 i = (mk ms i c ms.length (init (fo ts ms c i).1 (fo ts ms c i).2 t)).2 := by
  have hl := fo_len ts ms c i
  simp only [fo, ht, gv, Int.toNat_natCast]
  rw [List.getElem?_set_self (by omega), List.getElem?_set_self (by omega)]
  simp
abbrev sP (ts : List Thing) (ms : List Mark) (c : Int) : List Int := (fo ts ms c ts.length).1
abbrev bP (ts : List Thing) (ms : List Mark) (c : Int) : List Int := (fo ts ms c ts.length).2
def okMarks (ts : List Thing) (ms : List Mark) : Prop := ∀ m, m ∈ ms → okMark ts m
theorem hasOf_succ (ts : List Thing) (ms : List Mark) (c : Int) (n : Nat) (i : Int) (t : Thing) (ht : ts[i.toNat]? = some t) (at_ : Int) : hasOf ts ms c (n + 1) i at_ ↔ (t.at_ ≤ at_ ∧ ((∃ m, m ∈ ms ∧ m.change = c ∧ m.thing = i ∧ m.at_ ≤ at_) ∨ (t.of ≠ -1 ∧ hasOf ts ms c n t.of t.at_))) := by
  simp [hasOf, ht]
theorem hasOf_iff (ts : List Thing) (ms : List Mark) (hv : okThings ts) (hm : okMarks ts ms) (h8 : ts.length ≤ 8) (c : Int) : ∀ (n i : Nat), i < n → i < ts.length → ∀ at_ : Int, at_ ≤ 99 → (hasOf ts ms c n i at_ ↔ gv (sP ts ms c) i ≤ at_) := by
  intro n
  induction n with
  | zero => intro i h; omega
  | succ n ih =>
    intro i h1 h2 at_ h99
    obtain ⟨t, ht⟩ := get_of h2
    have hok := hv _ _ ht
    have hof := hok.1
    have hat := hok.2.1
    unfold within at hof hat
    rw [hasOf_succ ts ms c n i t (by simpa using ht), (fo_lt ts ms c i ts.length h2).1, (fo_at ts ms c i t ht (by omega)).1, mk_le _ _ _ _ _ _ (Nat.le_refl _)]
    have hk : (∃ (k : Nat) (a : Mark), k < ms.length ∧ ms[k]? = some a ∧ a.thing = i ∧ a.change = c ∧ a.at_ ≤ at_) ↔ t.at_ ≤ at_ ∧ ∃ m, m ∈ ms ∧ m.change = c ∧ m.thing = i ∧ m.at_ ≤ at_ := by
      constructor
      · rintro ⟨k, a, _, h3, h4, h5, h6⟩
        have hmem := List.mem_of_getElem? h3
        have ho := (hm a hmem).2.2
        rw [h4, upAt_of (u := t) (by simpa using ht)] at ho
        unfold within at ho
        exact ⟨by omega, a, hmem, h5, h4, h6⟩
      · rintro ⟨_, m, h3, h4, h5, h6⟩
        obtain ⟨k, hk⟩ := List.mem_iff_getElem?.1 h3
        exact ⟨k, m, (List.getElem?_eq_some_iff.1 hk).1, hk, h5, h4, h6⟩
    have hi : (init (fo ts ms c i).1 (fo ts ms c i).2 t).1 ≤ at_ ↔ t.at_ ≤ at_ ∧ t.of ≠ -1 ∧ hasOf ts ms c n t.of t.at_ := by
      by_cases h1' : t.of = -1
      · simp [init, h1']; omega
      · have hlt : t.of.toNat < i := by omega
        have := ih t.of.toNat (by omega) (by omega) t.at_ (by omega)
        rw [show gv (sP ts ms c) ((t.of.toNat : Nat) : Int) = gv (fo ts ms c i).1 ((t.of.toNat : Nat) : Int) from (fo_lt ts ms c t.of.toNat ts.length (by omega)).1.trans (fo_lt ts ms c t.of.toNat i hlt).1.symm, Int.toNat_of_nonneg (by omega)] at this
        rw [this]
        have hg : gv (fo ts ms c i).1 t.of = ((fo ts ms c i).1[t.of.toNat]?).getD 0 := rfl
        rw [hg]
        unfold init
        by_cases hle : ((fo ts ms c i).1[t.of.toNat]?).getD 0 ≤ t.at_
        · simp [h1', hle]
        · simp [h1', hle]; omega
    rw [hi, hk]
    constructor
    · rintro ⟨q1, q2 | q2⟩
      · exact .inr ⟨q1, q2⟩
      · exact .inl ⟨q1, q2⟩
    · rintro (⟨q1, q2⟩ | ⟨q1, q2⟩)
      · exact ⟨q1, .inr q2⟩
      · exact ⟨q1, .inl q2⟩
theorem hasAt_iff (ts : List Thing) (ms : List Mark) (hv : okThings ts) (hm : okMarks ts ms) (h8 : ts.length ≤ 8) (c i at_ : Int) (hi : 0 ≤ i ∧ i < ts.length) (h99 : at_ ≤ 99) : hasAt ts ms c i at_ ↔ gv (sP ts ms c) i ≤ at_ := by
  have := hasOf_iff ts ms hv hm h8 c (i.toNat + 1) i.toNat (by omega) (by omega) at_ h99
  rwa [Int.toNat_of_nonneg hi.1] at this
theorem valid.marks {ts : List Thing} {ms : List Mark} (h : valid ts ms) : okMarks ts ms := h.2.2.2
theorem sP_len (ts : List Thing) (ms : List Mark) (c : Int) : (sP ts ms c).length = 8 := (fo_len ts ms c _).1
theorem c101 (ts : List Thing) (ms : List Mark) (i c m : Int) (r : Prop × Int) (hr : r = answer ts ms (within i 0 (ts.length - 1) ∧ within c 0 2 ∧ within m 0 99) False (hasAt ts ms c i m, 0)) : PC Tryd.prog 101 [hT ts ms, .int .i64 i, .int .i64 c, .int .i64 m] (.tup [.bool (decide r.1), .int .i64 r.2]) := by
  subst hr
  by_cases hq : valid ts ms ∧ within i 0 (ts.length - 1) ∧ within c 0 2 ∧ within m 0 99
  · obtain ⟨hv, hi, hc, hm⟩ := id hq
    rw [answer_yes hq]
    have hk := askP_ok hv
    have hl := hv.1
    have hir : 0 ≤ i ∧ i < ts.length := by unfold within at hi; omega
    rw [show hasAt ts ms c i m = (gv (sP ts ms c) i ≤ m) from propext (hasAt_iff ts ms hv.things hv.marks hv.1 c i m hir (by unfold within at hm; omega))]
    have h73 : PC Tryd.prog 123 [hX ts ms c (sP ts ms c) (bP ts ms c), .int .i64 i, .int .i64 m] (.bool (decide (gv (sP ts ms c) i ≤ m))) := PC.dec (d73 ts ms c _ _ (sP_len ts ms c) i m ⟨hir.1, by omega⟩)
    refine PC.body Tryd.func101 (by kernel_rfl) rfl (by simp [Tryd.f101]) rfl ?_
    simp only [Tryd.f101]
    intro hlen
    simp only [go_sem, List.length_map, and_true, true_and] at hlen
    refine CV.run ?_
    (repeat' (first | ((with_reducible first | apply sg | apply si | apply sq | apply sd) <;> intro hb <;> (try rw [hb]) <;> (try simp only [bq, bz, dtrue, dfalse] at hb) <;> (try simp only [within, Classical.not_not] at hb) <;> try simp only [go_sem]) | refine And.intro (by first | exact ⟨⟩ | omega | (simp only [I64]; omega)) ?_ | (with_reducible rw [vc_draw_eq]; first | (refine CV.draw (id := 1) sF10f_f101_1 mixed rfl (by kernel_rfl) ?_; delta sF10f_f101_1)) | (refine vp (c122 ts ms hv.things hv.1 _) ?_ ?_; focus (first | exact ⟨rfl, .inl ⟨by first | rfl | (simp only [go_sem, hi, hc, hm, hk, pureL_I, frL_I, frzL_I, AV.pureL, AV.pure]; done), by first | (simp only [go_sem, hi, hc, hm, hk, pureL_I, frL_I, frzL_I, AV.pureL, AV.pure]; done) | rfl⟩⟩ | exact ⟨rfl, .inr ⟨rfl, by simp only [go_sem, hi, hc, hm, hk, pureL_I, frL_I, frzL_I]⟩⟩)) | (refine dp (c122 ts ms hv.things hv.1 _) ?_ ?_; focus (exact ⟨rfl, by first | rfl | (simp only [go_sem, hi, hc, hm, hk, pureL_I, frL_I, frzL_I, AV.pureL, AV.pure]; done), by first | (simp only [go_sem, hi, hc, hm, hk, pureL_I, frL_I, frzL_I, AV.pureL, AV.pure]; done) | rfl⟩)) | (refine ds (c122 ts ms hv.things hv.1 _) ?_ ?_; focus exact ⟨rfl, rfl⟩) | ((with_reducible first | refine vp (c112 _ _ _) ?_ ?_ | refine vp (c111 _) ?_ ?_ | refine vp (c121 _) ?_ ?_ | refine vp (c120 _ _ _) ?_ ?_ | refine vp h73 ?_ ?_); focus (first | exact ⟨rfl, .inl ⟨by first | rfl | (simp only [go_sem, hi, hc, hm, hk, pureL_I, frL_I, frzL_I, AV.pureL, AV.pure]; done), by first | (simp only [go_sem, hi, hc, hm, hk, pureL_I, frL_I, frzL_I, AV.pureL, AV.pure]; done) | rfl⟩⟩ | exact ⟨rfl, .inr ⟨rfl, by simp only [go_sem, hi, hc, hm, hk, pureL_I, frL_I, frzL_I]⟩⟩)) | ((with_reducible first | refine dp (c112 _ _ _) ?_ ?_ | refine dp (c111 _) ?_ ?_ | refine dp (c121 _) ?_ ?_ | refine dp (c120 _ _ _) ?_ ?_ | refine dp h73 ?_ ?_); focus (exact ⟨rfl, by first | rfl | (simp only [go_sem, hi, hc, hm, hk, pureL_I, frL_I, frzL_I, AV.pureL, AV.pure]; done), by first | (simp only [go_sem, hi, hc, hm, hk, pureL_I, frL_I, frzL_I, AV.pureL, AV.pure]; done) | rfl⟩)) | ((with_reducible first | refine ds (c112 _ _ _) ?_ ?_ | refine ds (c111 _) ?_ ?_ | refine ds (c121 _) ?_ ?_ | refine ds (c120 _ _ _) ?_ ?_ | refine ds h73 ?_ ?_); focus exact ⟨rfl, rfl⟩) | (simp only [go_sem, hi, hc, hm, hk, pureL_I, frL_I, frzL_I])))
    exact bd Iff.rfl
  · rw [answer_no hq]
    refine PC.body Tryd.func101 (by kernel_rfl) rfl (by simp [Tryd.f101]) rfl ?_
    simp only [Tryd.f101]
    intro hlen
    simp only [go_sem, List.length_map, and_true, true_and] at hlen
    refine CV.run ?_
    (repeat' (first | ((with_reducible first | apply sg | apply si | apply sq | apply sd) <;> intro hb <;> (try rw [hb]) <;> (try simp only [bq, bz, dtrue, dfalse] at hb) <;> (try simp only [within, Classical.not_not] at hb) <;> try simp only [go_sem]) | refine And.intro (by first | exact ⟨⟩ | omega | (simp only [I64]; omega)) ?_ | (with_reducible rw [vc_draw_eq]; first | (refine CV.draw (id := 1) sF10f_f101_1 mixed rfl (by kernel_rfl) ?_; delta sF10f_f101_1)) | ((with_reducible first | refine vp (c112 _ _ _) ?_ ?_ | refine vp (c111 _) ?_ ?_ | refine vp (c121 _) ?_ ?_ | refine vp (c120 _ _ _) ?_ ?_); focus (first | exact ⟨rfl, .inl ⟨by first | rfl | (simp only [go_sem, dtrue, AV.pureL, AV.pure]; done), by first | (simp only [go_sem, dtrue, AV.pureL, AV.pure]; done) | rfl⟩⟩ | exact ⟨rfl, .inr ⟨rfl, by simp only [go_sem, dtrue]⟩⟩)) | ((with_reducible first | refine dp (c112 _ _ _) ?_ ?_ | refine dp (c111 _) ?_ ?_ | refine dp (c121 _) ?_ ?_ | refine dp (c120 _ _ _) ?_ ?_); focus (exact ⟨rfl, by first | rfl | (simp only [go_sem, dtrue, AV.pureL, AV.pure]; done), by first | (simp only [go_sem, dtrue, AV.pureL, AV.pure]; done) | rfl⟩)) | ((with_reducible first | refine ds (c112 _ _ _) ?_ ?_ | refine ds (c111 _) ?_ ?_ | refine ds (c121 _) ?_ ?_ | refine ds (c120 _ _ _) ?_ ?_); focus exact ⟨rfl, rfl⟩) | (simp only [go_sem, dtrue])))
    all_goals first
      | exact askP_congr (by unfold within; first | omega | (constructor <;> intro h <;> first | exact h.elim | (exfalso; omega)))
      | (exfalso; obtain ⟨hv, hp⟩ := askP_0.1 hb; first | exact hp.elim | exact hq ⟨hv, by unfold within; omega⟩)
end Go.Proofs.YtjlopclpofbgbaaDoor

