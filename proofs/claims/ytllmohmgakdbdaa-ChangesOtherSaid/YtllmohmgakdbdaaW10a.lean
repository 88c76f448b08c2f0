/- Contracts of functions of the given program, without a condition beyond those that each theorem states; they lead to the given statement. -/
import Derived.Test.YtllmohmgakdbdaaW08b
set_option linter.unusedSimpArgs false
set_option linter.unusedVariables false
set_option maxRecDepth 100000
namespace Go.Proofs.Ytllmohmgakdbdaa
open Go Go.Fl
open Classical
theorem ix_first {α : Type} {q : α → Prop} {l : List α} (h : 0 ≤ ix q l) : ∃ k : Nat, ix q l = k ∧ firstAt q l k := by
  by_cases hh : ∃ j, firstAt q l j
  · obtain ⟨j, hj⟩ := hh
    exact ⟨j, ix_at hj, hj⟩
  · rw [ix, dif_neg hh] at h; omega
def ownM (c i s : Int) (m : Mark) : Prop := m.change = c ∧ m.thing = i ∧ m.at_ = s
noncomputable def srcOf (ts : List Thing) (ms : List Mark) (c : Int) : Nat → Int → Int
  | 0, _ => -1
  | n + 1, i => if 0 ≤ ix (ownM c i (gv (sP ts ms c) i)) ms then ix (ownM c i (gv (sP ts ms c) i)) ms else match ts[i.toNat]? with | some t => srcOf ts ms c n t.of | none => -1
theorem srcOf_own {ts : List Thing} {ms : List Mark} {c i : Int} {n : Nat} (h : 0 ≤ ix (ownM c i (gv (sP ts ms c) i)) ms) : srcOf ts ms c (n + 1) i = ix (ownM c i (gv (sP ts ms c) i)) ms := if_pos h
theorem srcOf_up {ts : List Thing} {ms : List Mark} {c i : Int} {n : Nat} {t : Thing} (h : ¬ 0 ≤ ix (ownM c i (gv (sP ts ms c) i)) ms) (ht : ts[i.toNat]? = some t) : srcOf ts ms c (n + 1) i = srcOf ts ms c n t.of := by
  simp only [srcOf, if_neg h, ht]
theorem mk_inv (ms : List Mark) (i c v w : Int) (hw : ownBy ms i w = false) : ∀ n, n ≤ ms.length →
    (mk ms i c n (v, w) = (v, w) ∧ ∀ (k : Nat) (m : Mark), k < n → ms[k]? = some m → m.thing = i → m.change = c → v < m.at_) ∨
    (∃ (k : Nat) (a : Mark), k < n ∧ ms[k]? = some a ∧ a.thing = i ∧ a.change = c ∧ mk ms i c n (v, w) = (a.at_, (k : Int)) ∧ a.at_ ≤ v ∧ ∀ (k' : Nat) (m : Mark), k' < n → ms[k']? = some m → m.thing = i → m.change = c → a.at_ ≤ m.at_ ∧ (k' < k → a.at_ < m.at_))
  | 0, _ => .inl ⟨rfl, fun k m h => by omega⟩
  | n + 1, hn => by
    obtain ⟨m, hm⟩ := get_of (l := ms) (j := n) (by omega)
    rcases mk_inv ms i c v w hw n (by omega) with ⟨h1, h2⟩ | ⟨k, a, h1, h2, h3, h4, h5, h6, h7⟩
    · by_cases hy : m.thing = i ∧ m.change = c ∧ m.at_ ≤ v
      · refine .inr ⟨n, m, by omega, hm, hy.1, hy.2.1, ?_, hy.2.2, fun k' m' hk hkm h8 h9 => ?_⟩
        · simp only [mk, hm, h1, mkStep]
          rw [if_pos ⟨hy.1, hy.2.1, by rw [hw]; simp only [and_true]; omega⟩]
        · rcases Nat.lt_or_ge k' n with hl | hl
          · have := h2 k' m' hl hkm h8 h9
            omega
          · have : k' = n := by omega
            subst this
            rw [hm] at hkm; cases hkm
            omega
      · refine .inl ⟨?_, fun k' m' hk hkm h8 h9 => ?_⟩
        · simp only [mk, hm, h1, mkStep]
          rw [if_neg (by rintro ⟨q1, q2, q3⟩; exact hy ⟨q1, q2, by omega⟩)]
        · rcases Nat.lt_or_ge k' n with hl | hl
          · exact h2 k' m' hl hkm h8 h9
          · have : k' = n := by omega
            subst this
            rw [hm] at hkm; cases hkm
            have : ¬ m.at_ ≤ v := fun h => hy ⟨h8, h9, h⟩
            omega
    · have hob : ownBy ms i (k : Int) = true := by rw [ownBy_of (by omega) (by simpa using h2)]; simp [h3]
      by_cases hy : m.thing = i ∧ m.change = c ∧ m.at_ < a.at_
      · refine .inr ⟨n, m, by omega, hm, hy.1, hy.2.1, ?_, by omega, fun k' m' hk hkm h8 h9 => ?_⟩
        · simp only [mk, hm, h5, mkStep]
          rw [if_pos ⟨hy.1, hy.2.1, .inl hy.2.2⟩]
        · rcases Nat.lt_or_ge k' n with hl | hl
          · have := h7 k' m' hl hkm h8 h9
            omega
          · have : k' = n := by omega
            subst this
            rw [hm] at hkm; cases hkm
            omega
      · refine .inr ⟨k, a, by omega, h2, h3, h4, ?_, h6, fun k' m' hk hkm h8 h9 => ?_⟩
        · simp only [mk, hm, h5, mkStep]
          rw [if_neg (by
            rintro ⟨q1, q2, q3⟩
            rw [hob] at q3
            simp only [Bool.true_eq_false, and_false, or_false] at q3
            exact hy ⟨q1, q2, q3⟩)]
        · rcases Nat.lt_or_ge k' n with hl | hl
          · exact h7 k' m' hl hkm h8 h9
          · have : k' = n := by omega
            subst this
            rw [hm] at hkm; cases hkm
            have : ¬ m.at_ < a.at_ := fun h => hy ⟨h8, h9, h⟩
            omega
def reach (ts : List Thing) (th : Int) : Nat → Int → Prop
  | 0, _ => False
  | n + 1, i => i = th ∨ ∃ t, ts[i.toNat]? = some t ∧ t.of ≠ -1 ∧ reach ts th n t.of
theorem reach_le {ts : List Thing} (hv : okThings ts) {th : Int} : ∀ (n : Nat) (i : Int), 0 ≤ i → reach ts th n i → 0 ≤ th ∧ th ≤ i
  | 0, _, _, h => h.elim
  | n + 1, i, h0, h => by
    rcases h with rfl | ⟨t, h1, h2, h3⟩
    · omega
    · have hof := (hv _ _ h1).1
      unfold within at hof
      have := reach_le hv n t.of (by omega) h3
      omega
theorem src_spec (ts : List Thing) (ms : List Mark) (hv : okThings ts) (hm : okMarks ts ms) (h8 : ts.length ≤ 8) (c : Int) : ∀ (n i : Nat), i < n → i < ts.length → gv (sP ts ms c) i ≤ 99 →
    gv (bP ts ms c) i = srcOf ts ms c n i ∧ ∃ (k : Nat) (m : Mark), gv (bP ts ms c) i = k ∧ ms[k]? = some m ∧ m.change = c ∧ reach ts m.thing n i ∧ m.at_ ≤ gv (sP ts ms c) i ∧ (m.thing = i → m.at_ = gv (sP ts ms c) i) := by
  intro n
  induction n with
  | zero => intro i h; omega
  | succ n ih =>
    intro i h1 h2 h3
    obtain ⟨t, ht⟩ := get_of h2
    have hok := hv _ _ ht
    have hof := hok.1
    have hat := hok.2.1
    unfold within at hof hat
    have hofi : t.of < i := by omega
    have e1 := (fo_lt ts ms c i ts.length h2).1.trans (fo_at ts ms c i t ht (by omega)).1
    have e2 := (fo_lt ts ms c i ts.length h2).2.trans (fo_at ts ms c i t ht (by omega)).2
    rw [show gv (bP ts ms c) i = _ from e2]
    have hup : t.of ≠ -1 → gv (fo ts ms c i).1 t.of = gv (sP ts ms c) t.of ∧ gv (fo ts ms c i).2 t.of = gv (bP ts ms c) t.of := fun hne => by
      have hlt : t.of.toNat < i := by omega
      have a1 := (fo_lt ts ms c t.of.toNat ts.length (by omega)).1.trans (fo_lt ts ms c t.of.toNat i hlt).1.symm
      have a2 := (fo_lt ts ms c t.of.toNat ts.length (by omega)).2.trans (fo_lt ts ms c t.of.toNat i hlt).2.symm
      rw [Int.toNat_of_nonneg (by omega)] at a1 a2
      exact ⟨a1.symm, a2.symm⟩
    have hini : (init (fo ts ms c i).1 (fo ts ms c i).2 t = (100, -1)) ∨ (t.of ≠ -1 ∧ gv (sP ts ms c) t.of ≤ t.at_ ∧ init (fo ts ms c i).1 (fo ts ms c i).2 t = (t.at_, gv (bP ts ms c) t.of)) := by
      by_cases hc : t.of ≠ -1 ∧ ((fo ts ms c i).1[t.of.toNat]?).getD 0 ≤ t.at_
      · obtain ⟨b1, b2⟩ := hup hc.1
        exact .inr ⟨hc.1, by rw [← b1]; exact hc.2, by rw [init, if_pos hc, ← b2]; rfl⟩
      · exact .inl (by rw [init, if_neg hc])
    have own : ∀ (v w : Int), init (fo ts ms c i).1 (fo ts ms c i).2 t = (v, w) → ownBy ms i w = false → ∀ (k : Nat) (a : Mark), k < ms.length → ms[k]? = some a → a.thing = i → a.change = c → mk ms i c ms.length (v, w) = (a.at_, (k : Int)) → (∀ (k' : Nat) (m : Mark), k' < ms.length → ms[k']? = some m → m.thing = i → m.change = c → a.at_ ≤ m.at_ ∧ (k' < k → a.at_ < m.at_)) →
        ((mk ms i c ms.length (init (fo ts ms c i).1 (fo ts ms c i).2 t)).2 = srcOf ts ms c (n + 1) i ∧ ∃ (k : Nat) (m : Mark), (mk ms i c ms.length (init (fo ts ms c i).1 (fo ts ms c i).2 t)).2 = k ∧ ms[k]? = some m ∧ m.change = c ∧ reach ts m.thing (n + 1) i ∧ m.at_ ≤ gv (sP ts ms c) i ∧ (m.thing = i → m.at_ = gv (sP ts ms c) i)) := by
      intro v w hi hob k a q1 q2 q3 q4 q5 q6
      rw [hi] at e1
      rw [hi, q5]
      rw [q5] at e1
      have hs : gv (sP ts ms c) i = a.at_ := e1
      have hf : firstAt (ownM c i (gv (sP ts ms c) i)) ms k := by
        refine ⟨⟨a, q2, q4, q3, hs.symm⟩, fun k' hk' b hb ho => ?_⟩
        have := (q6 k' b (by omega) hb ho.2.1 ho.1).2 hk'
        have := ho.2.2
        omega
      have hx := ix_at hf
      refine ⟨by rw [srcOf_own (by omega), hx], k, a, rfl, q2, q4, .inl q3.symm, by omega, fun _ => by omega⟩
    rcases hini with hini | ⟨hne, hle, hini⟩
    · rcases mk_inv ms i c 100 (-1) (ownBy_no (by omega)) ms.length (Nat.le_refl _) with ⟨q1, q2⟩ | ⟨k, a, q1, q2, q3, q4, q5, q6, q7⟩
      · rw [hini, q1] at e1
        have : gv (sP ts ms c) i = 100 := e1
        omega
      · exact own 100 (-1) hini (ownBy_no (by omega)) k a q1 q2 q3 q4 q5 q7
    · have hlt : t.of.toNat < i := by omega
      have hof0 : 0 ≤ t.of := by omega
      have ihh := ih t.of.toNat (by omega) (by omega)
      rw [Int.toNat_of_nonneg (by omega)] at ihh
      obtain ⟨r1, k0, m0, r2, r3, r4, r5, r6, r7⟩ := ihh (by omega)
      have hrl := reach_le hv n t.of hof0 r5
      have hob : ownBy ms i (gv (bP ts ms c) t.of) = false := by
        rw [r2, ownBy_of (by omega) (m := m0) (by simpa using r3)]
        exact decide_eq_false (Int.ne_of_lt (Int.lt_of_le_of_lt hrl.2 hofi))
      rcases mk_inv ms i c t.at_ (gv (bP ts ms c) t.of) hob ms.length (Nat.le_refl _) with ⟨q1, q2⟩ | ⟨k, a, q1, q2, q3, q4, q5, q6, q7⟩
      · rw [hini, q1] at e1
        rw [hini, q1]
        have hs : gv (sP ts ms c) i = t.at_ := e1
        have hno : ¬ 0 ≤ ix (ownM c i (gv (sP ts ms c) i)) ms := by
          rw [ix_ge]
          rintro ⟨a, ha, ho⟩
          obtain ⟨k, hk⟩ := List.mem_iff_getElem?.1 ha
          have := q2 k a (List.getElem?_eq_some_iff.1 hk).1 hk ho.2.1 ho.1
          have := ho.2.2
          omega
        refine ⟨by rw [srcOf_up hno (by simpa using ht)]; exact r1, k0, m0, r2, r3, r4, .inr ⟨t, by simpa using ht, hne, r5⟩, by omega, fun h => by omega⟩
      · exact own t.at_ (gv (bP ts ms c) t.of) hini hob k a q1 q2 q3 q4 q5 q7
theorem c84 (ts : List Thing) (ms : List Mark) (hv : okThings ts) (hm : okMarks ts ms) (h8 : ts.length ≤ 8) (hml : ms.length ≤ 40) (c : Int) : ∀ (n : Nat) (i : Int), 0 ≤ i → i < n → i < ts.length → gv (sP ts ms c) i ≤ 99 → PC Try.prog 84 [hT ts ms, .int .i64 i, .int .i64 c] (.int .i64 (srcOf ts ms c n i)) := by
  intro n
  induction n with
  | zero => intro i h0 h1; omega
  | succ n ih =>
    intro i h0 h1 h2 h3
    obtain ⟨t, ht⟩ := get_of (l := ts) (j := i.toNat) (by omega)
    have hof := (hv _ _ ht).1
    unfold within at hof
    have h83 := c83 ts ms hv i c ⟨h0, h2⟩
    rw [since_gv ts ms hv hm h8 c i ⟨h0, h2⟩, if_neg (by omega)] at h83
    have hrec : ¬ 0 ≤ ix (ownM c i (gv (sP ts ms c) i)) ms → PC Try.prog 84 [hT ts ms, .int .i64 t.of, .int .i64 c] (.int .i64 (srcOf ts ms c n t.of)) := fun hno => by
      obtain ⟨_, k, m, q1, q2, q3, q4, q5, q6⟩ := src_spec ts ms hv hm h8 c (i.toNat + 1) i.toNat (by omega) (by omega) (by rwa [Int.toNat_of_nonneg h0])
      rw [Int.toNat_of_nonneg h0] at q1 q4 q5 q6
      rcases q4 with q4 | ⟨t', r1, r2, r3⟩
      · exact absurd (ix_ge.2 ⟨m, List.mem_of_getElem? q2, q3, q4.symm, q6 q4.symm⟩) hno
      · rw [ht] at r1; cases r1
        refine ih t.of (by omega) (by omega) (by omega) ?_
        have hh := (hasAt_iff ts ms hv hm h8 c i (gv (sP ts ms c) i) ⟨h0, h2⟩ h3).2 (Int.le_refl _)
        unfold hasAt at hh
        rw [hasOf_succ ts ms c _ i t ht] at hh
        rcases hh.2 with ⟨a, a1, a2, a3, a4⟩ | ⟨_, hh⟩
        · have hbk := (hasAt_iff ts ms hv hm h8 c i a.at_ ⟨h0, h2⟩ (by omega)).1
          have : gv (sP ts ms c) i ≤ a.at_ := hbk (by
            unfold hasAt
            rw [hasOf_succ ts ms c _ i t ht]
            have ho := (hm a a1).2.2
            rw [a3, upAt_of ht] at ho
            unfold within at ho
            exact ⟨ho.1, .inl ⟨a, a1, a2, a3, Int.le_refl _⟩⟩)
          exact absurd (ix_ge.2 ⟨a, a1, a2, a3, by omega⟩) hno
        · have hat := (hv _ _ ht).2.1
          unfold within at hat
          have := hasOf_iff ts ms hv hm h8 c i.toNat t.of.toNat (by omega) (by omega) t.at_ (by omega)
          rw [Int.toNat_of_nonneg (by omega)] at this
          have := this.1 hh
          omega
    generalize hS : gv (sP ts ms c) i = S at h83 h3 hrec
    refine PC.body Try.func84 (by kernel_rfl) rfl (by simp [Try.f84]) rfl ?_
    simp only [Try.f84]
    intro hlen
    simp only [go_sem, List.length_map, and_true, true_and] at hlen
    refine CV.run ?_
    (repeat' (first | ((first | with_reducible refine vcG_split ?_ ?_ | with_reducible refine vcIf_split ?_ ?_ | with_reducible refine vcQ_split ?_ ?_ | with_reducible refine vcDG_split ?_ ?_) <;> intro hb <;> (try rw [hb]) <;> (try simp only [Bool.and_eq_true, Bool.or_eq_true, dtrue, dfalse, Bool.not_eq_true', Bool.not_eq_false', Bool.and_eq_false_iff, Bool.or_eq_false_iff, Bool.not_true, Bool.not_false] at hb) <;> (try simp only [within] at hb) <;> try (simp only [go_sem])) | refine And.intro (by (first | exact trivial | (simp only [I64]; omega) | omega)) ?_ | (with_reducible rw [vc_draw_eq]; first | refine CV.draw (id := 8) [(0, 0), (0, 0), (0, 0), (0, 0), (0, 0), (0, 0), (0, 0), (0, 0), (0, 0), (0, 0)] mixed rfl (by kernel_rfl) ?_) | (first | (refine vcP_pure (h83) rfl ?_ ?_ ?_; (focus (first | rfl | ((simp only [go_sem, AV.pureL, AV.pure, pureL_mapI, Bool.and_self]) <;> fail))); (focus (first | ((simp only [go_sem]) <;> fail) | rfl))) | (refine dCallP_pure (h83) rfl ?_ ?_ ?_; (focus (first | rfl | ((simp only [go_sem, AV.pureL, AV.pure, pureL_mapI, Bool.and_self]) <;> fail))); (focus (first | ((simp only [go_sem]) <;> fail) | rfl))) | refine vcP_safe (h83) rfl rfl (by (simp only [go_sem])) ?_ | refine dCallP_safe (h83) rfl rfl ?_) | (simp only [go_sem])))
    refine vc_for (fun j => ⟨[(8, .int .i64 j), (7, .int .i64 S), (6, .int .i64 0), (3, .lp 0 0), (1, .int .i64 i), (2, .int .i64 c)], [.box 25 [.lst false 4 (ts.map encT), .lst false 3 (ms.map encM)] false]⟩) ms.length (fun j => ∀ k m, k < j → ms[k]? = some m → ¬ ownM c i S m) (by (first | exact wk_same (by (simp only [go_sem, Int.natCast_add, Int.natCast_one, Int.natCast_zero, Int.cast_ofNat_Int])) | exact wk_drop (by (simp only [go_sem, Int.natCast_add, Int.natCast_one, Int.natCast_zero, Int.cast_ofNat_Int])) (by (simp only [go_sem, Int.natCast_add, Int.natCast_one, Int.natCast_zero, Int.cast_ofNat_Int])) (by (simp only [go_sem, Int.natCast_add, Int.natCast_one, Int.natCast_zero, Int.cast_ofNat_Int])) (by (simp only [go_sem, Int.natCast_add, Int.natCast_one, Int.natCast_zero, Int.cast_ofNat_Int])) (by (simp only [go_sem, Int.natCast_add, Int.natCast_one, Int.natCast_zero, Int.cast_ofNat_Int])))) (fun i t h => by omega) ?_
    intro j hj hx
    rcases Nat.lt_or_ge j ms.length with hlt | hge
    · obtain ⟨m, hm⟩ := get_of hlt
      have hlt' : (j : Int) < ms.length := by omega
      by_cases ho : ownM c i S m
      · have hf : ix (ownM c i (gv (sP ts ms c) i)) ms = j := ix_at ⟨⟨m, hm, by rw [hS]; exact ho⟩, fun k hk b hb => by rw [hS]; exact hx k b hk hb⟩
        have h0x : 0 ≤ ix (ownM c i (gv (sP ts ms c) i)) ms := by rw [hf]; omega
        rw [srcOf_own h0x, hf]
        obtain ⟨o1, o2, o3⟩ := ho
        (repeat' (first | ((first | with_reducible refine vcG_split ?_ ?_ | with_reducible refine vcIf_split ?_ ?_ | with_reducible refine vcQ_split ?_ ?_ | with_reducible refine vcDG_split ?_ ?_) <;> intro hb <;> (try rw [hb]) <;> (try simp only [Bool.and_eq_true, Bool.or_eq_true, dtrue, dfalse, Bool.not_eq_true', Bool.not_eq_false', Bool.and_eq_false_iff, Bool.or_eq_false_iff, Bool.not_true, Bool.not_false] at hb) <;> (try simp only [within] at hb) <;> try (simp only [go_sem, hlt', hm, encM, o1, o2, o3])) | refine And.intro (by (first | exact trivial | (simp only [I64]; omega) | omega)) ?_ | (with_reducible rw [vc_draw_eq]; first | refine CV.draw (id := 8) [(0, 0), (0, 0), (0, 0), (0, 0), (0, 0), (0, 0), (0, 0), (0, 0), (0, 0), (0, 0)] mixed rfl (by kernel_rfl) ?_) | fail | (simp only [go_sem, hlt', hm, encM, o1, o2, o3])))
        all_goals omega
      · have hn : m.change = c → m.thing = i → ¬ m.at_ = S := fun h1 h2 h3 => ho ⟨h1, h2, h3⟩
        (repeat' (first | ((first | with_reducible refine vcG_split ?_ ?_ | with_reducible refine vcIf_split ?_ ?_ | with_reducible refine vcQ_split ?_ ?_ | with_reducible refine vcDG_split ?_ ?_) <;> intro hb <;> (try rw [hb]) <;> (try simp only [Bool.and_eq_true, Bool.or_eq_true, dtrue, dfalse, Bool.not_eq_true', Bool.not_eq_false', Bool.and_eq_false_iff, Bool.or_eq_false_iff, Bool.not_true, Bool.not_false] at hb) <;> (try simp only [within] at hb) <;> try (simp only [go_sem, hlt', hm, encM])) | refine And.intro (by (first | exact trivial | (simp only [I64]; omega) | omega)) ?_ | (with_reducible rw [vc_draw_eq]; first | refine CV.draw (id := 8) [(0, 0), (0, 0), (0, 0), (0, 0), (0, 0), (0, 0), (0, 0), (0, 0), (0, 0), (0, 0)] mixed rfl (by kernel_rfl) ?_) | fail | (simp only [go_sem, hlt', hm, encM])))
        all_goals first
          | (exfalso; exact hn (by assumption) (by assumption) (by assumption))
          | (refine ⟨by (first | exact wk_same (by (simp only [go_sem, Int.natCast_add, Int.natCast_one, Int.natCast_zero, Int.cast_ofNat_Int])) | exact wk_drop (by (simp only [go_sem, Int.natCast_add, Int.natCast_one, Int.natCast_zero, Int.cast_ofNat_Int])) (by (simp only [go_sem, Int.natCast_add, Int.natCast_one, Int.natCast_zero, Int.cast_ofNat_Int])) (by (simp only [go_sem, Int.natCast_add, Int.natCast_one, Int.natCast_zero, Int.cast_ofNat_Int])) (by (simp only [go_sem, Int.natCast_add, Int.natCast_one, Int.natCast_zero, Int.cast_ofNat_Int])) (by (simp only [go_sem, Int.natCast_add, Int.natCast_one, Int.natCast_zero, Int.cast_ofNat_Int]))), fun k m' hk hkm => ?_⟩
             rcases Nat.lt_or_ge k j with h2 | h2
             · exact hx k m' h2 hkm
             · have : k = j := by omega
               subst this
               rw [hm] at hkm; cases hkm; exact ho)
          | skip
    · have hge' : ¬ (j : Int) < ms.length := by omega
      have hno : ¬ 0 ≤ ix (ownM c i (gv (sP ts ms c) i)) ms := by
        rw [hS, ix_ge]
        rintro ⟨a, ha, ho⟩
        obtain ⟨k, hk⟩ := List.mem_iff_getElem?.1 ha
        exact hx k a (by have := (List.getElem?_eq_some_iff.1 hk).1; omega) hk ho
      rw [srcOf_up hno ht]
      rw [hS] at hno
      have hr84 := hrec hno
      (repeat' (first | ((first | with_reducible refine vcG_split ?_ ?_ | with_reducible refine vcIf_split ?_ ?_ | with_reducible refine vcQ_split ?_ ?_ | with_reducible refine vcDG_split ?_ ?_) <;> intro hb <;> (try rw [hb]) <;> (try simp only [Bool.and_eq_true, Bool.or_eq_true, dtrue, dfalse, Bool.not_eq_true', Bool.not_eq_false', Bool.and_eq_false_iff, Bool.or_eq_false_iff, Bool.not_true, Bool.not_false] at hb) <;> (try simp only [within] at hb) <;> try (simp only [go_sem, hge', ht, encT])) | refine And.intro (by (first | exact trivial | (simp only [I64]; omega) | omega)) ?_ | (with_reducible rw [vc_draw_eq]; first | refine CV.draw (id := 8) [(0, 0), (0, 0), (0, 0), (0, 0), (0, 0), (0, 0), (0, 0), (0, 0), (0, 0), (0, 0)] mixed rfl (by kernel_rfl) ?_) | (first | (refine vcP_pure (hr84) rfl ?_ ?_ ?_; (focus (first | rfl | ((simp only [go_sem, hge', ht, encT, AV.pureL, AV.pure, pureL_mapI, Bool.and_self]) <;> fail))); (focus (first | ((simp only [go_sem, hge', ht, encT]) <;> fail) | rfl))) | (refine dCallP_pure (hr84) rfl ?_ ?_ ?_; (focus (first | rfl | ((simp only [go_sem, hge', ht, encT, AV.pureL, AV.pure, pureL_mapI, Bool.and_self]) <;> fail))); (focus (first | ((simp only [go_sem, hge', ht, encT]) <;> fail) | rfl))) | refine vcP_safe (hr84) rfl rfl (by (simp only [go_sem, hge', ht, encT])) ?_ | refine dCallP_safe (hr84) rfl rfl ?_) | (simp only [go_sem, hge', ht, encT])))
      all_goals trace_state
end Go.Proofs.Ytllmohmgakdbdaa
