/- Contracts of functions of the given program, without a condition beyond those that each theorem states; they lead to the given statement. -/
import Derived.Test.YtjlopclpofbgbaaDoorF10d
set_option linter.unusedSimpArgs false
set_option linter.unusedVariables false
set_option maxRecDepth 100000
namespace Go.Proofs.YtjlopclpofbgbaaDoor
open Go Go.Fl
open Classical
def sF10e_f122_5 : List (Nat × Nat) := [(0, 0), (0, 0), (0, 1), (0, 1), (0, 0), (0, 0), (0, 0), (0, 0), (0, 1), (0, 1), (1, 1), (0, 0)]
def sF10e_f122_6 : List (Nat × Nat) := [(0, 0), (0, 0), (0, 0), (0, 0), (0, 0), (0, 0), (0, 0), (0, 0), (0, 0), (0, 0), (0, 0), (0, 0), (0, 0), (0, 0), (0, 0)]
def sF10e_f122_7 : List (Nat × Nat) := [(0, 0), (0, 0), (0, 1), (0, 1), (0, 0), (0, 0), (0, 0), (0, 0), (0, 0), (0, 0), (0, 0), (0, 0), (0, 0), (0, 0), (0, 0), (0, 0), (0, 0), (0, 1), (0, 1), (1, 1), (0, 0)]
def sF10e_f122_12 : List (Nat × Nat) := [(0, 0), (0, 0), (0, 0), (0, 0), (0, 0), (0, 0), (0, 0), (0, 0), (0, 0), (0, 0), (0, 0), (0, 0), (0, 0), (0, 0), (0, 0), (0, 0), (0, 0), (0, 0), (0, 0), (0, 0), (0, 0), (0, 0), (0, 0), (0, 0), (0, 0), (0, 0), (0, 0), (0, 0), (0, 0)]
def sF10e_f122_13 : List (Nat × Nat) := [(0, 0), (0, 0), (0, 1), (0, 1), (0, 0), (0, 0), (0, 1), (0, 0), (0, 0), (0, 0), (0, 0), (0, 1), (0, 1), (1, 1), (0, 0)]
abbrev hX (ts : List Thing) (ms : List Mark) (c : Int) (s b : List Int) : AV := .pp (.lst false 4 (ts.map encT) :: .lst false 3 (ms.map encM) :: .int .i64 c :: (s.map I ++ b.map I))
theorem c123 (ts : List Thing) (ms : List Mark) (c : Int) (s b : List Int) (h8 : s.length = 8) (i m x : Int) (hi : 0 ≤ i ∧ i < 8) (hx : s[i.toNat]? = some x) : PC Tryd.prog 123 [hX ts ms c s b, .int .i64 i, .int .i64 m] (.bool (decide (x ≤ m))) := by
  have hx2 : (s.map I ++ b.map I)[i.toNat]? = some (.int .i64 x) := by
    rw [List.getElem?_append_left (by simp; omega)]; simp [hx, I]
  refine PC.body Tryd.func123 (by kernel_rfl) rfl (by simp [Tryd.f123]) rfl ?_
  simp only [Tryd.f123]
  intro hlen
  simp only [go_sem, List.length_map, and_true, true_and] at hlen
  refine CV.run ?_
  (repeat' (first | ((with_reducible first | apply sg | apply si | apply sq | apply sd) <;> intro hb <;> (try rw [hb]) <;> (try simp only [bq, bz, dtrue, dfalse] at hb) <;> (try simp only [within, Classical.not_not] at hb) <;> try simp only [go_sem]) | refine And.intro (by first | exact ⟨⟩ | omega | (simp only [I64]; omega)) ?_ | (simp only [go_sem, drop_head, hx2, Nat.mul_one])))
  all_goals omega
def ownBy (ms : List Mark) (i b : Int) : Bool := decide (0 ≤ b) && (match ms[b.toNat]? with | some m => decide (m.thing = i) | none => false)
def mkStep (ms : List Mark) (i c : Int) (n : Nat) (m : Mark) (x : Int × Int) : Int × Int :=
  if m.thing = i ∧ m.change = c ∧ (m.at_ < x.1 ∨ m.at_ = x.1 ∧ ownBy ms i x.2 = false) then (m.at_, (n : Int)) else x
def mk (ms : List Mark) (i c : Int) : Nat → Int × Int → Int × Int
  | 0, x => x
  | n + 1, x => match ms[n]? with | some m => mkStep ms i c n m (mk ms i c n x) | none => mk ms i c n x
def init (s b : List Int) (t : Thing) : Int × Int := if t.of ≠ -1 ∧ (s[t.of.toNat]?).getD 0 ≤ t.at_ then (t.at_, (b[t.of.toNat]?).getD 0) else (100, -1)
def fo (ts : List Thing) (ms : List Mark) (c : Int) : Nat → List Int × List Int
  | 0 => (List.replicate 8 0, List.replicate 8 0)
  | j + 1 => match ts[j]? with
    | some t => ((fo ts ms c j).1.set j (mk ms j c ms.length (init (fo ts ms c j).1 (fo ts ms c j).2 t)).1, (fo ts ms c j).2.set j (mk ms j c ms.length (init (fo ts ms c j).1 (fo ts ms c j).2 t)).2)
    | none => fo ts ms c j
theorem fo_len (ts : List Thing) (ms : List Mark) (c : Int) : ∀ j, (fo ts ms c j).1.length = 8 ∧ (fo ts ms c j).2.length = 8
  | 0 => by simp [fo]
  | j + 1 => by
    have := fo_len ts ms c j
    unfold fo; split <;> simp [this]
theorem ownBy_of {ms : List Mark} {i b : Int} {m : Mark} (h0 : 0 ≤ b) (hm : ms[b.toNat]? = some m) : ownBy ms i b = decide (m.thing = i) := by simp [ownBy, h0, hm]
theorem ownBy_no {ms : List Mark} {i b : Int} (h0 : ¬ 0 ≤ b) : ownBy ms i b = false := by simp [ownBy, h0]
theorem drop_b {s b : List Int} (h8 : s.length = 8) : List.drop 8 (s.map I ++ b.map I) = b.map I := by
  rw [List.drop_append_of_le_length (by simp [h8]), List.drop_eq_nil_of_le (by simp [h8])]; rfl
theorem c130 (ts : List Thing) (ms : List Mark) (c : Int) (s b : List Int) (h8 : s.length = 8) (i x : Int) (hi : 0 ≤ i ∧ i < 8) (hx : b[i.toNat]? = some x) (hxb : x < ms.length) : PC Tryd.prog 130 [hX ts ms c s b, .int .i64 i] (.bool (ownBy ms i x)) := by
  have hx2 : (List.drop 8 (s.map I ++ b.map I))[i.toNat]? = some (.int .i64 x) := by
    rw [drop_b h8]; simp [hx, I]
  by_cases h0 : 0 ≤ x
  · obtain ⟨m, hm⟩ := get_of (l := ms) (j := x.toNat) (by omega)
    rw [ownBy_of h0 hm]
    refine PC.body Tryd.func130 (by kernel_rfl) rfl (by simp [Tryd.f130]) rfl ?_
    simp only [Tryd.f130]
    intro hlen
    simp only [go_sem, List.length_map, and_true, true_and] at hlen
    refine CV.run ?_
    (repeat' (first | ((with_reducible first | apply sg | apply si | apply sq | apply sd) <;> intro hb <;> (try rw [hb]) <;> (try simp only [bq, bz, dtrue, dfalse] at hb) <;> (try simp only [within, Classical.not_not] at hb) <;> try simp only [go_sem]) | refine And.intro (by first | exact ⟨⟩ | omega | (simp only [I64]; omega)) ?_ | (simp only [go_sem, drop_head, hx2, Nat.mul_one, h0, hm, encM])))
    all_goals omega
  · rw [ownBy_no h0]
    refine PC.body Tryd.func130 (by kernel_rfl) rfl (by simp [Tryd.f130]) rfl ?_
    simp only [Tryd.f130]
    intro hlen
    simp only [go_sem, List.length_map, and_true, true_and] at hlen
    refine CV.run ?_
    (repeat' (first | ((with_reducible first | apply sg | apply si | apply sq | apply sd) <;> intro hb <;> (try rw [hb]) <;> (try simp only [bq, bz, dtrue, dfalse] at hb) <;> (try simp only [within, Classical.not_not] at hb) <;> try simp only [go_sem]) | refine And.intro (by first | exact ⟨⟩ | omega | (simp only [I64]; omega)) ?_ | (simp only [go_sem, drop_head, hx2, Nat.mul_one, h0])))
    all_goals omega
theorem setL_s {x y z : AV} {s : List Int} {r : List AV} {k : Nat} {v : Int} (hk : k < s.length) : setL (x :: y :: z :: (s.map I ++ r)) (3 + k) [.int .i64 v] = x :: y :: z :: ((s.set k v).map I ++ r) := by
  rw [Nat.add_comm 3 k]
  simp only [setL, List.take_succ_cons, List.drop_succ_cons, List.length_cons, List.length_nil, Nat.zero_add, List.cons_append, List.cons.injEq, true_and]
  rw [List.take_append_of_le_length (by simp; omega), List.drop_append_of_le_length (by simp; omega), List.map_set, List.set_eq_take_append_cons_drop, if_pos (by simpa using hk)]
  simp [I, List.map_drop, List.map_take]
theorem setL_b {x y z : AV} {s b : List Int} {k : Nat} {v : Int} (h8 : s.length = 8) (hk : k < b.length) : setL (x :: y :: z :: (s.map I ++ b.map I)) (11 + k) [.int .i64 v] = x :: y :: z :: (s.map I ++ (b.set k v).map I) := by
  rw [Nat.add_comm 11 k]
  have e : k + 11 = (k + (s.map I).length) + 3 := by simp [h8]
  rw [e]
  simp only [setL, List.take_succ_cons, List.drop_succ_cons, List.length_cons, List.length_nil, Nat.zero_add, List.cons_append, List.cons.injEq, true_and]
  rw [show k + (s.map I).length + 1 = (s.map I).length + (k + 1) from by omega, Nat.add_comm k]
  rw [List.take_length_add_append, List.drop_length_add_append, List.map_set, List.set_eq_take_append_cons_drop, if_pos (by simpa using hk)]
  simp [I, List.map_drop, List.map_take]
theorem put_s {x y z : AV} {s : List Int} {r : List AV} {k : Nat} {v : Int} (hk : k < s.length) : List.take (3 + k) (x :: y :: z :: (s.map I ++ r)) ++ [.int .i64 v] ++ List.drop (3 + k) (y :: z :: (s.map I ++ r)) = x :: y :: z :: ((s.set k v).map I ++ r) := by
  rw [← setL_s hk]; rw [show 3 + k = k + 2 + 1 from by omega]; rfl
theorem put_b {x y z : AV} {s b : List Int} {k : Nat} {v : Int} (h8 : s.length = 8) (hk : k < b.length) : List.take (11 + k) (x :: y :: z :: (s.map I ++ b.map I)) ++ [.int .i64 v] ++ List.drop (11 + k) (y :: z :: (s.map I ++ b.map I)) = x :: y :: z :: (s.map I ++ (b.set k v).map I) := by
  rw [← setL_b h8 hk]; rw [show 11 + k = k + 10 + 1 from by omega]; rfl
theorem drop3 {x y z : AV} {r : List AV} {k : Nat} : List.drop (3 + k) (x :: y :: z :: r) = r.drop k := by rw [Nat.add_comm]; rfl
theorem drop11 {x y z : AV} {s b : List Int} {k : Nat} (h8 : s.length = 8) : List.drop (11 + k) (x :: y :: z :: (s.map I ++ b.map I)) = (b.map I).drop k := by
  rw [Nat.add_comm 11 k]
  have e : k + 11 = ((s.map I).length + k) + 3 := by simp [h8]; omega
  rw [e]
  simp only [List.drop_succ_cons]
  rw [List.drop_length_add_append]
theorem rep8 : (List.replicate 8 (0 : Int)).map I = List.replicate 8 (.int .i64 0) := by simp [I]
theorem pureL_I : ∀ s b : List Int, AV.pureL (s.map I ++ b.map I) = true
  | [], [] => rfl
  | [], x :: b => by have := pureL_I [] b; simpa [AV.pureL, AV.pure, I] using this
  | x :: s, b => by have := pureL_I s b; simpa [AV.pureL, AV.pure, I] using this
theorem frzL_I {H : Heap} {s b : List Int} : frzL H (s.map I ++ b.map I) (s.map I ++ b.map I) = True := by simp [frzL_self H _ (pureL_I s b)]
theorem get3 {x y z : AV} {s : List Int} {r : List AV} {k : Nat} (hk : k < s.length) : (List.drop (3 + k) (x :: y :: z :: (s.map I ++ r))).head? = (s[k]?).map I := by
  rw [drop3, drop_head, List.getElem?_append_left (by simpa using hk)]; simp
theorem get11 {x y z : AV} {s b : List Int} {k : Nat} (h8 : s.length = 8) : (List.drop (11 + k) (x :: y :: z :: (s.map I ++ b.map I))).head? = (b[k]?).map I := by
  rw [drop11 h8, drop_head]; simp
theorem belowL_I {n : Nat} {s b : List Int} : (belowL n (s.map I ++ b.map I) = true) = True := by simp [belowL_pure n _ (pureL_I s b)]
theorem frL_I {h : List AV → List AV} {H : Heap} : ∀ {s b : List Int}, frL h H (s.map I ++ b.map I) = s.map I ++ b.map I
  | [], [] => rfl
  | [], x :: b => by have := frL_I (h := h) (H := H) (s := []) (b := b); simpa [frL, frV, I] using this
  | x :: s, b => by have := frL_I (h := h) (H := H) (s := s) (b := b); simpa [frL, frV, I] using this
attribute [go_sem] belowL_I frL_I
theorem mk_b (ms : List Mark) (i c : Int) (x : Int × Int) (hx : x.2 < ms.length) : ∀ n, n ≤ ms.length → (mk ms i c n x).2 < ms.length
  | 0, _ => hx
  | n + 1, hn => by
    have := mk_b ms i c x hx n (by omega)
    obtain ⟨m, hm⟩ := get_of (l := ms) (j := n) (by omega)
    simp only [mk, hm, mkStep]
    split
    · simp only; omega
    · exact this
theorem init_b {s b : List Int} {ms : List Mark} {t : Thing} (h : t.of ≠ -1 → ∃ x, b[t.of.toNat]? = some x ∧ x < ms.length) : (init s b t).2 < ms.length := by
  unfold init; split
  · rename_i hc
    obtain ⟨x, hb, hx⟩ := h hc.1
    simpa [hb] using hx
  · simp only; omega
theorem fo_b (ts : List Thing) (ms : List Mark) (hv : okThings ts) (h8 : ts.length ≤ 8) (c : Int) : ∀ j, j ≤ ts.length → ∀ i, i < j → ∃ x, (fo ts ms c j).2[i]? = some x ∧ x < ms.length
  | 0, _, i, h => by omega
  | j + 1, hj, i, h => by
    have ih := fo_b ts ms hv h8 c j (by omega)
    obtain ⟨t, ht⟩ := get_of (l := ts) (j := j) (by omega)
    have hof := (hv j t ht).1
    unfold within at hof
    simp only [fo, ht]
    have hl := (fo_len ts ms c j).2
    rcases Nat.lt_or_ge i j with h2 | h2
    · rw [List.getElem?_set_ne (by omega)]; exact ih i h2
    · have : i = j := by omega
      subst this
      rw [List.getElem?_set_self (by omega)]
      exact ⟨_, rfl, mk_b _ _ _ _ (init_b fun h1 => ih _ (by omega)) _ (Nat.le_refl _)⟩
set_option maxHeartbeats 2000000 in
theorem c122 (ts : List Thing) (ms : List Mark) (hv : okThings ts) (h8 : ts.length ≤ 8) (c : Int) : PC Tryd.prog 122 [hT ts ms, .int .i64 c] (hX ts ms c (fo ts ms c ts.length).1 (fo ts ms c ts.length).2) := by
  refine PC.body Tryd.func122 (by kernel_rfl) rfl (by simp [Tryd.f122]) rfl ?_
  simp only [Tryd.f122]
  intro hlen
  simp only [go_sem, List.length_map, and_true, true_and] at hlen
  refine CV.run ?_
  (repeat' (first | ((with_reducible first | apply sg | apply si | apply sq | apply sd) <;> intro hb <;> (try rw [hb]) <;> (try simp only [bq, bz, dtrue, dfalse] at hb) <;> (try simp only [within, Classical.not_not] at hb) <;> try simp only [go_sem]) | refine And.intro (by first | exact ⟨⟩ | omega | (simp only [I64]; omega)) ?_ | (with_reducible rw [vc_draw_eq]; first | (refine CV.draw (id := 5) sF10e_f122_5 mixed rfl (by kernel_rfl) ?_; delta sF10e_f122_5) | (refine CV.draw (id := 6) sF10e_f122_6 mixed rfl (by kernel_rfl) ?_; delta sF10e_f122_6) | (refine CV.draw (id := 7) sF10e_f122_7 mixed rfl (by kernel_rfl) ?_; delta sF10e_f122_7) | (refine CV.draw (id := 12) sF10e_f122_12 mixed rfl (by kernel_rfl) ?_; delta sF10e_f122_12) | (refine CV.draw (id := 13) sF10e_f122_13 mixed rfl (by kernel_rfl) ?_; delta sF10e_f122_13)) | (simp only [go_sem, rep8])))
  refine vc_for (fun j => ⟨[(18, .int .i64 j), (17, .int .i64 ts.length), (16, .lst false 4 (ts.map encT)), (5, .lp 1 0), (4, .nilP), (2, .lp 0 0), (1, .int .i64 c)], [.box 25 [.lst false 4 (ts.map encT), .lst false 3 (ms.map encM)] false, .box 135 (.lst false 4 (ts.map encT) :: .lst false 3 (ms.map encM) :: .int .i64 c :: ((fo ts ms c j).1.map I ++ (fo ts ms c j).2.map I)) false]⟩) ts.length (fun j => True) (by (first | exact wk_same (by simp only [go_sem, Int.natCast_add, cn, Int.cast_ofNat_Int, fo, rep8]) | (refine wk_drop ?_ ?_ ?_ ?_ ?_ <;> simp only [go_sem, Int.natCast_add, cn, Int.cast_ofNat_Int, fo, rep8]))) trivial ?_
  intro j hj _
  obtain ⟨hs8, hb8⟩ := fo_len ts ms c j
  generalize hfo : fo ts ms c j = sb at hs8 hb8 ⊢
  obtain ⟨s, b⟩ := sb
  simp only at hs8 hb8
  rcases Nat.lt_or_ge j ts.length with hlt | hge
  · obtain ⟨t, ht⟩ := get_of hlt
    have hlt' : (j : Int) < ts.length := by omega
    have hj8 : j < 8 := by omega
    have hof := (hv j t ht).1
    unfold within at hof
    have hib : (init s b t).2 < ms.length := init_b fun h1 => by
      have := fo_b ts ms hv h8 c j hj t.of.toNat (by omega)
      rwa [hfo] at this
    rcases hini : init s b t with ⟨v, w⟩
    rw [hini] at hib
    by_cases h1 : t.of = -1
    · have hvw : v = 100 ∧ w = -1 := by simp [init, h1] at hini; exact ⟨hini.1.symm, hini.2.symm⟩
      obtain ⟨hv1, hw1⟩ := hvw
      (repeat' (first | ((with_reducible first | apply sg | apply si | apply sq | apply sd) <;> intro hb <;> (try rw [hb]) <;> (try simp only [bq, bz, dtrue, dfalse] at hb) <;> (try simp only [within, Classical.not_not] at hb) <;> try simp only [go_sem]) | refine And.intro (by first | exact ⟨⟩ | omega | (simp only [I64]; omega)) ?_ | (with_reducible rw [vc_draw_eq]; first | (refine CV.draw (id := 5) sF10e_f122_5 mixed rfl (by kernel_rfl) ?_; delta sF10e_f122_5) | (refine CV.draw (id := 6) sF10e_f122_6 mixed rfl (by kernel_rfl) ?_; delta sF10e_f122_6) | (refine CV.draw (id := 7) sF10e_f122_7 mixed rfl (by kernel_rfl) ?_; delta sF10e_f122_7) | (refine CV.draw (id := 12) sF10e_f122_12 mixed rfl (by kernel_rfl) ?_; delta sF10e_f122_12) | (refine CV.draw (id := 13) sF10e_f122_13 mixed rfl (by kernel_rfl) ?_; delta sF10e_f122_13)) | (simp only [go_sem, hlt', ht, h1, encT, hs8, hb8, hj8, put_s, put_b, List.length_set, List.length_append, Nat.mul_one])))
      refine vc_for (fun n => ⟨[(70, .int .i64 n), (69, .int .i64 ms.length), (68, .lst false 3 (ms.map encM)), (6, .int .i64 j), (18, .int .i64 j), (17, .int .i64 ts.length), (16, .lst false 4 (ts.map encT)), (5, .lp 1 0), (4, .nilP), (2, .lp 0 0), (1, .int .i64 c)], [.box 25 [.lst false 4 (ts.map encT), .lst false 3 (ms.map encM)] false, .box 135 (.lst false 4 (ts.map encT) :: .lst false 3 (ms.map encM) :: .int .i64 c :: ((s.set j (mk ms j c n (v, w)).1).map I ++ (b.set j (mk ms j c n (v, w)).2).map I)) false]⟩) ms.length (fun j => True) (by (first | exact wk_same (by simp only [go_sem, Int.natCast_add, cn, Int.cast_ofNat_Int, mk, hv1, hw1]) | (refine wk_drop ?_ ?_ ?_ ?_ ?_ <;> simp only [go_sem, Int.natCast_add, cn, Int.cast_ofNat_Int, mk, hv1, hw1]))) trivial ?_
      intro n hn _
      have hwb := mk_b ms j c (v, w) hib n hn
      generalize hmk : mk ms j c n (v, w) = vw at hwb ⊢
      obtain ⟨v', w'⟩ := vw
      rcases Nat.lt_or_ge n ms.length with hlt2 | hge2
      · obtain ⟨m, hm⟩ := get_of hlt2
        have hlt2' : (n : Int) < ms.length := by omega
        have hj8' : (j : Int) < 8 := by omega
        have hj8'' : 0 ≤ (j : Int) ∧ (j : Int) < 8 := by omega
        have hcall := c130 ts ms c (s.set j v') (b.set j w') (by simpa using hs8) j w' hj8'' (by simp [hb8, hj8]) hwb
        (repeat' (first | ((with_reducible first | apply sg | apply si | apply sq | apply sd) <;> intro hb <;> (try rw [hb]) <;> (try simp only [bq, bz, dtrue, dfalse] at hb) <;> (try simp only [within, Classical.not_not] at hb) <;> try simp only [go_sem]) | refine And.intro (by first | exact ⟨⟩ | omega | (simp only [I64]; omega)) ?_ | (with_reducible rw [vc_draw_eq]; first | (refine CV.draw (id := 5) sF10e_f122_5 mixed rfl (by kernel_rfl) ?_; delta sF10e_f122_5) | (refine CV.draw (id := 6) sF10e_f122_6 mixed rfl (by kernel_rfl) ?_; delta sF10e_f122_6) | (refine CV.draw (id := 7) sF10e_f122_7 mixed rfl (by kernel_rfl) ?_; delta sF10e_f122_7) | (refine CV.draw (id := 12) sF10e_f122_12 mixed rfl (by kernel_rfl) ?_; delta sF10e_f122_12) | (refine CV.draw (id := 13) sF10e_f122_13 mixed rfl (by kernel_rfl) ?_; delta sF10e_f122_13)) | ((with_reducible first | refine vp hcall ?_ ?_); focus (first | exact ⟨rfl, .inl ⟨by first | rfl | (simp only [go_sem, hlt2', hm, encM, I, get3, get11, Option.map_some, List.getElem?_set_self, hs8, hb8, hj8, put_s, put_b, List.length_set, List.set_set, List.length_append, Nat.mul_one, frzL_I, true_and, and_true, AV.pureL, AV.pure]; done), by first | (simp only [go_sem, hlt2', hm, encM, I, get3, get11, Option.map_some, List.getElem?_set_self, hs8, hb8, hj8, put_s, put_b, List.length_set, List.set_set, List.length_append, Nat.mul_one, frzL_I, true_and, and_true, AV.pureL, AV.pure]; done) | rfl⟩⟩ | exact ⟨rfl, .inr ⟨rfl, by simp only [go_sem, hlt2', hm, encM, I, get3, get11, Option.map_some, List.getElem?_set_self, hs8, hb8, hj8, put_s, put_b, List.length_set, List.set_set, List.length_append, Nat.mul_one, frzL_I, true_and, and_true]⟩⟩)) | ((with_reducible first | refine dp hcall ?_ ?_); focus (exact ⟨rfl, by first | rfl | (simp only [go_sem, hlt2', hm, encM, I, get3, get11, Option.map_some, List.getElem?_set_self, hs8, hb8, hj8, put_s, put_b, List.length_set, List.set_set, List.length_append, Nat.mul_one, frzL_I, true_and, and_true, AV.pureL, AV.pure]; done), by first | (simp only [go_sem, hlt2', hm, encM, I, get3, get11, Option.map_some, List.getElem?_set_self, hs8, hb8, hj8, put_s, put_b, List.length_set, List.set_set, List.length_append, Nat.mul_one, frzL_I, true_and, and_true, AV.pureL, AV.pure]; done) | rfl⟩)) | ((with_reducible first | refine ds hcall ?_ ?_); focus exact ⟨rfl, rfl⟩) | (simp only [go_sem, hlt2', hm, encM, I, get3, get11, Option.map_some, List.getElem?_set_self, hs8, hb8, hj8, put_s, put_b, List.length_set, List.set_set, List.length_append, Nat.mul_one, frzL_I, true_and, and_true])))
        all_goals first
          | (have e : mk ms j c (n + 1) (v, w) = (m.at_, (n : Int)) := by
              simp only [mk, hm, hmk, mkStep]
              first
                | exact if_pos ⟨by assumption, by assumption, .inl (by assumption)⟩
                | exact if_pos ⟨by assumption, by assumption, .inr ⟨by assumption, by assumption⟩⟩
             (first | exact wk_same (by simp only [go_sem, Int.natCast_add, cn, Int.cast_ofNat_Int, e]) | (refine wk_drop ?_ ?_ ?_ ?_ ?_ <;> simp only [go_sem, Int.natCast_add, cn, Int.cast_ofNat_Int, e])))
          | (have e : mk ms j c (n + 1) (v, w) = (v', w') := by
              simp only [mk, hm, hmk, mkStep]
              refine if_neg ?_
              rintro ⟨q1, q2, q3⟩
              rcases q3 with q3 | ⟨q3, q4⟩ <;> first | contradiction | omega | (simp_all; done)
             (first | exact wk_same (by simp only [go_sem, Int.natCast_add, cn, Int.cast_ofNat_Int, e]) | (refine wk_drop ?_ ?_ ?_ ?_ ?_ <;> simp only [go_sem, Int.natCast_add, cn, Int.cast_ofNat_Int, e])))
      · have hge2' : ¬ (n : Int) < ms.length := by omega
        have : n = ms.length := by omega
        subst this
        (repeat' (first | ((with_reducible first | apply sg | apply si | apply sq | apply sd) <;> intro hb <;> (try rw [hb]) <;> (try simp only [bq, bz, dtrue, dfalse] at hb) <;> (try simp only [within, Classical.not_not] at hb) <;> try simp only [go_sem]) | refine And.intro (by first | exact ⟨⟩ | omega | (simp only [I64]; omega)) ?_ | (with_reducible rw [vc_draw_eq]; first | (refine CV.draw (id := 5) sF10e_f122_5 mixed rfl (by kernel_rfl) ?_; delta sF10e_f122_5) | (refine CV.draw (id := 6) sF10e_f122_6 mixed rfl (by kernel_rfl) ?_; delta sF10e_f122_6) | (refine CV.draw (id := 7) sF10e_f122_7 mixed rfl (by kernel_rfl) ?_; delta sF10e_f122_7) | (refine CV.draw (id := 12) sF10e_f122_12 mixed rfl (by kernel_rfl) ?_; delta sF10e_f122_12) | (refine CV.draw (id := 13) sF10e_f122_13 mixed rfl (by kernel_rfl) ?_; delta sF10e_f122_13)) | (simp only [go_sem, hge2'])))
        (first | exact wk_same (by simp only [go_sem, Int.natCast_add, cn, Int.cast_ofNat_Int, fo, hfo, ht, hini, hmk]) | (refine wk_drop ?_ ?_ ?_ ?_ ?_ <;> simp only [go_sem, Int.natCast_add, cn, Int.cast_ofNat_Int, fo, hfo, ht, hini, hmk]))
    · have h1' : 0 ≤ t.of ∧ t.of < j := by omega
      have hne : j ≠ t.of.toNat := by omega
      have h18 : t.of.toNat < 8 := by omega
      have h18' : 0 ≤ t.of ∧ t.of < 8 := by omega
      obtain ⟨u, hu⟩ := get_of (l := s) (j := t.of.toNat) (by omega)
      obtain ⟨y, hy⟩ := get_of (l := b) (j := t.of.toNat) (by omega)
      by_cases hut : u ≤ t.at_
      · have hvw : v = t.at_ ∧ w = y := by simp [init, h1, hu, hy, hut] at hini; exact ⟨hini.1.symm, hini.2.symm⟩
        obtain ⟨hv1, hw1⟩ := hvw
        (repeat' (first | ((with_reducible first | apply sg | apply si | apply sq | apply sd) <;> intro hb <;> (try rw [hb]) <;> (try simp only [bq, bz, dtrue, dfalse] at hb) <;> (try simp only [within, Classical.not_not] at hb) <;> try simp only [go_sem]) | refine And.intro (by first | exact ⟨⟩ | omega | (simp only [I64]; omega)) ?_ | (with_reducible rw [vc_draw_eq]; first | (refine CV.draw (id := 5) sF10e_f122_5 mixed rfl (by kernel_rfl) ?_; delta sF10e_f122_5) | (refine CV.draw (id := 6) sF10e_f122_6 mixed rfl (by kernel_rfl) ?_; delta sF10e_f122_6) | (refine CV.draw (id := 7) sF10e_f122_7 mixed rfl (by kernel_rfl) ?_; delta sF10e_f122_7) | (refine CV.draw (id := 12) sF10e_f122_12 mixed rfl (by kernel_rfl) ?_; delta sF10e_f122_12) | (refine CV.draw (id := 13) sF10e_f122_13 mixed rfl (by kernel_rfl) ?_; delta sF10e_f122_13)) | (simp only [go_sem, hlt', ht, h1, h1', h18', hne, h18, hu, hy, hut, I, get3, get11, Option.map_some, List.getElem?_set_ne, List.set_set, encT, hs8, hb8, hj8, put_s, put_b, List.length_set, List.length_append, Nat.mul_one])))
        refine vc_for (fun n => ⟨[(70, .int .i64 n), (69, .int .i64 ms.length), (68, .lst false 3 (ms.map encM)), (6, .int .i64 j), (18, .int .i64 j), (17, .int .i64 ts.length), (16, .lst false 4 (ts.map encT)), (5, .lp 1 0), (4, .nilP), (2, .lp 0 0), (1, .int .i64 c)], [.box 25 [.lst false 4 (ts.map encT), .lst false 3 (ms.map encM)] false, .box 135 (.lst false 4 (ts.map encT) :: .lst false 3 (ms.map encM) :: .int .i64 c :: ((s.set j (mk ms j c n (v, w)).1).map I ++ (b.set j (mk ms j c n (v, w)).2).map I)) false]⟩) ms.length (fun j => True) (by (first | exact wk_same (by simp only [go_sem, Int.natCast_add, cn, Int.cast_ofNat_Int, mk, hv1, hw1]) | (refine wk_drop ?_ ?_ ?_ ?_ ?_ <;> simp only [go_sem, Int.natCast_add, cn, Int.cast_ofNat_Int, mk, hv1, hw1]))) trivial ?_
        intro n hn _
        have hwb := mk_b ms j c (v, w) hib n hn
        generalize hmk : mk ms j c n (v, w) = vw at hwb ⊢
        obtain ⟨v', w'⟩ := vw
        rcases Nat.lt_or_ge n ms.length with hlt2 | hge2
        · obtain ⟨m, hm⟩ := get_of hlt2
          have hlt2' : (n : Int) < ms.length := by omega
          have hj8' : (j : Int) < 8 := by omega
          have hj8'' : 0 ≤ (j : Int) ∧ (j : Int) < 8 := by omega
          have hcall := c130 ts ms c (s.set j v') (b.set j w') (by simpa using hs8) j w' hj8'' (by simp [hb8, hj8]) hwb
          (repeat' (first | ((with_reducible first | apply sg | apply si | apply sq | apply sd) <;> intro hb <;> (try rw [hb]) <;> (try simp only [bq, bz, dtrue, dfalse] at hb) <;> (try simp only [within, Classical.not_not] at hb) <;> try simp only [go_sem]) | refine And.intro (by first | exact ⟨⟩ | omega | (simp only [I64]; omega)) ?_ | (with_reducible rw [vc_draw_eq]; first | (refine CV.draw (id := 5) sF10e_f122_5 mixed rfl (by kernel_rfl) ?_; delta sF10e_f122_5) | (refine CV.draw (id := 6) sF10e_f122_6 mixed rfl (by kernel_rfl) ?_; delta sF10e_f122_6) | (refine CV.draw (id := 7) sF10e_f122_7 mixed rfl (by kernel_rfl) ?_; delta sF10e_f122_7) | (refine CV.draw (id := 12) sF10e_f122_12 mixed rfl (by kernel_rfl) ?_; delta sF10e_f122_12) | (refine CV.draw (id := 13) sF10e_f122_13 mixed rfl (by kernel_rfl) ?_; delta sF10e_f122_13)) | ((with_reducible first | refine vp hcall ?_ ?_); focus (first | exact ⟨rfl, .inl ⟨by first | rfl | (simp only [go_sem, hlt2', hm, encM, I, get3, get11, Option.map_some, List.getElem?_set_self, hs8, hb8, hj8, put_s, put_b, List.length_set, List.set_set, List.length_append, Nat.mul_one, frzL_I, true_and, and_true, AV.pureL, AV.pure]; done), by first | (simp only [go_sem, hlt2', hm, encM, I, get3, get11, Option.map_some, List.getElem?_set_self, hs8, hb8, hj8, put_s, put_b, List.length_set, List.set_set, List.length_append, Nat.mul_one, frzL_I, true_and, and_true, AV.pureL, AV.pure]; done) | rfl⟩⟩ | exact ⟨rfl, .inr ⟨rfl, by simp only [go_sem, hlt2', hm, encM, I, get3, get11, Option.map_some, List.getElem?_set_self, hs8, hb8, hj8, put_s, put_b, List.length_set, List.set_set, List.length_append, Nat.mul_one, frzL_I, true_and, and_true]⟩⟩)) | ((with_reducible first | refine dp hcall ?_ ?_); focus (exact ⟨rfl, by first | rfl | (simp only [go_sem, hlt2', hm, encM, I, get3, get11, Option.map_some, List.getElem?_set_self, hs8, hb8, hj8, put_s, put_b, List.length_set, List.set_set, List.length_append, Nat.mul_one, frzL_I, true_and, and_true, AV.pureL, AV.pure]; done), by first | (simp only [go_sem, hlt2', hm, encM, I, get3, get11, Option.map_some, List.getElem?_set_self, hs8, hb8, hj8, put_s, put_b, List.length_set, List.set_set, List.length_append, Nat.mul_one, frzL_I, true_and, and_true, AV.pureL, AV.pure]; done) | rfl⟩)) | ((with_reducible first | refine ds hcall ?_ ?_); focus exact ⟨rfl, rfl⟩) | (simp only [go_sem, hlt2', hm, encM, I, get3, get11, Option.map_some, List.getElem?_set_self, hs8, hb8, hj8, put_s, put_b, List.length_set, List.set_set, List.length_append, Nat.mul_one, frzL_I, true_and, and_true])))
          all_goals first
            | (have e : mk ms j c (n + 1) (v, w) = (m.at_, (n : Int)) := by
                simp only [mk, hm, hmk, mkStep]
                first
                  | exact if_pos ⟨by assumption, by assumption, .inl (by assumption)⟩
                  | exact if_pos ⟨by assumption, by assumption, .inr ⟨by assumption, by assumption⟩⟩
               (first | exact wk_same (by simp only [go_sem, Int.natCast_add, cn, Int.cast_ofNat_Int, e]) | (refine wk_drop ?_ ?_ ?_ ?_ ?_ <;> simp only [go_sem, Int.natCast_add, cn, Int.cast_ofNat_Int, e])))
            | (have e : mk ms j c (n + 1) (v, w) = (v', w') := by
                simp only [mk, hm, hmk, mkStep]
                refine if_neg ?_
                rintro ⟨q1, q2, q3⟩
                rcases q3 with q3 | ⟨q3, q4⟩ <;> first | contradiction | omega | (simp_all; done)
               (first | exact wk_same (by simp only [go_sem, Int.natCast_add, cn, Int.cast_ofNat_Int, e]) | (refine wk_drop ?_ ?_ ?_ ?_ ?_ <;> simp only [go_sem, Int.natCast_add, cn, Int.cast_ofNat_Int, e])))
        · have hge2' : ¬ (n : Int) < ms.length := by omega
          have : n = ms.length := by omega
          subst this
          (repeat' (first | ((with_reducible first | apply sg | apply si | apply sq | apply sd) <;> intro hb <;> (try rw [hb]) <;> (try simp only [bq, bz, dtrue, dfalse] at hb) <;> (try simp only [within, Classical.not_not] at hb) <;> try simp only [go_sem]) | refine And.intro (by first | exact ⟨⟩ | omega | (simp only [I64]; omega)) ?_ | (with_reducible rw [vc_draw_eq]; first | (refine CV.draw (id := 5) sF10e_f122_5 mixed rfl (by kernel_rfl) ?_; delta sF10e_f122_5) | (refine CV.draw (id := 6) sF10e_f122_6 mixed rfl (by kernel_rfl) ?_; delta sF10e_f122_6) | (refine CV.draw (id := 7) sF10e_f122_7 mixed rfl (by kernel_rfl) ?_; delta sF10e_f122_7) | (refine CV.draw (id := 12) sF10e_f122_12 mixed rfl (by kernel_rfl) ?_; delta sF10e_f122_12) | (refine CV.draw (id := 13) sF10e_f122_13 mixed rfl (by kernel_rfl) ?_; delta sF10e_f122_13)) | (simp only [go_sem, hge2'])))
          (first | exact wk_same (by simp only [go_sem, Int.natCast_add, cn, Int.cast_ofNat_Int, fo, hfo, ht, hini, hmk]) | (refine wk_drop ?_ ?_ ?_ ?_ ?_ <;> simp only [go_sem, Int.natCast_add, cn, Int.cast_ofNat_Int, fo, hfo, ht, hini, hmk]))
      · have hvw : v = 100 ∧ w = -1 := by simp [init, h1, hu, hy, hut] at hini; exact ⟨hini.1.symm, hini.2.symm⟩
        obtain ⟨hv1, hw1⟩ := hvw
        (repeat' (first | ((with_reducible first | apply sg | apply si | apply sq | apply sd) <;> intro hb <;> (try rw [hb]) <;> (try simp only [bq, bz, dtrue, dfalse] at hb) <;> (try simp only [within, Classical.not_not] at hb) <;> try simp only [go_sem]) | refine And.intro (by first | exact ⟨⟩ | omega | (simp only [I64]; omega)) ?_ | (with_reducible rw [vc_draw_eq]; first | (refine CV.draw (id := 5) sF10e_f122_5 mixed rfl (by kernel_rfl) ?_; delta sF10e_f122_5) | (refine CV.draw (id := 6) sF10e_f122_6 mixed rfl (by kernel_rfl) ?_; delta sF10e_f122_6) | (refine CV.draw (id := 7) sF10e_f122_7 mixed rfl (by kernel_rfl) ?_; delta sF10e_f122_7) | (refine CV.draw (id := 12) sF10e_f122_12 mixed rfl (by kernel_rfl) ?_; delta sF10e_f122_12) | (refine CV.draw (id := 13) sF10e_f122_13 mixed rfl (by kernel_rfl) ?_; delta sF10e_f122_13)) | (simp only [go_sem, hlt', ht, h1, h1', h18', hne, h18, hu, hy, hut, I, get3, get11, Option.map_some, List.getElem?_set_ne, List.set_set, encT, hs8, hb8, hj8, put_s, put_b, List.length_set, List.length_append, Nat.mul_one])))
        refine vc_for (fun n => ⟨[(70, .int .i64 n), (69, .int .i64 ms.length), (68, .lst false 3 (ms.map encM)), (6, .int .i64 j), (18, .int .i64 j), (17, .int .i64 ts.length), (16, .lst false 4 (ts.map encT)), (5, .lp 1 0), (4, .nilP), (2, .lp 0 0), (1, .int .i64 c)], [.box 25 [.lst false 4 (ts.map encT), .lst false 3 (ms.map encM)] false, .box 135 (.lst false 4 (ts.map encT) :: .lst false 3 (ms.map encM) :: .int .i64 c :: ((s.set j (mk ms j c n (v, w)).1).map I ++ (b.set j (mk ms j c n (v, w)).2).map I)) false]⟩) ms.length (fun j => True) (by (first | exact wk_same (by simp only [go_sem, Int.natCast_add, cn, Int.cast_ofNat_Int, mk, hv1, hw1]) | (refine wk_drop ?_ ?_ ?_ ?_ ?_ <;> simp only [go_sem, Int.natCast_add, cn, Int.cast_ofNat_Int, mk, hv1, hw1]))) trivial ?_
        intro n hn _
        have hwb := mk_b ms j c (v, w) hib n hn
        generalize hmk : mk ms j c n (v, w) = vw at hwb ⊢
        obtain ⟨v', w'⟩ := vw
        rcases Nat.lt_or_ge n ms.length with hlt2 | hge2
        · obtain ⟨m, hm⟩ := get_of hlt2
          have hlt2' : (n : Int) < ms.length := by omega
          have hj8' : (j : Int) < 8 := by omega
          have hj8'' : 0 ≤ (j : Int) ∧ (j : Int) < 8 := by omega
          have hcall := c130 ts ms c (s.set j v') (b.set j w') (by simpa using hs8) j w' hj8'' (by simp [hb8, hj8]) hwb
          (repeat' (first | ((with_reducible first | apply sg | apply si | apply sq | apply sd) <;> intro hb <;> (try rw [hb]) <;> (try simp only [bq, bz, dtrue, dfalse] at hb) <;> (try simp only [within, Classical.not_not] at hb) <;> try simp only [go_sem]) | refine And.intro (by first | exact ⟨⟩ | omega | (simp only [I64]; omega)) ?_ | (with_reducible rw [vc_draw_eq]; first | (refine CV.draw (id := 5) sF10e_f122_5 mixed rfl (by kernel_rfl) ?_; delta sF10e_f122_5) | (refine CV.draw (id := 6) sF10e_f122_6 mixed rfl (by kernel_rfl) ?_; delta sF10e_f122_6) | (refine CV.draw (id := 7) sF10e_f122_7 mixed rfl (by kernel_rfl) ?_; delta sF10e_f122_7) | (refine CV.draw (id := 12) sF10e_f122_12 mixed rfl (by kernel_rfl) ?_; delta sF10e_f122_12) | (refine CV.draw (id := 13) sF10e_f122_13 mixed rfl (by kernel_rfl) ?_; delta sF10e_f122_13)) | ((with_reducible first | refine vp hcall ?_ ?_); focus (first | exact ⟨rfl, .inl ⟨by first | rfl | (simp only [go_sem, hlt2', hm, encM, I, get3, get11, Option.map_some, List.getElem?_set_self, hs8, hb8, hj8, put_s, put_b, List.length_set, List.set_set, List.length_append, Nat.mul_one, frzL_I, true_and, and_true, AV.pureL, AV.pure]; done), by first | (simp only [go_sem, hlt2', hm, encM, I, get3, get11, Option.map_some, List.getElem?_set_self, hs8, hb8, hj8, put_s, put_b, List.length_set, List.set_set, List.length_append, Nat.mul_one, frzL_I, true_and, and_true, AV.pureL, AV.pure]; done) | rfl⟩⟩ | exact ⟨rfl, .inr ⟨rfl, by simp only [go_sem, hlt2', hm, encM, I, get3, get11, Option.map_some, List.getElem?_set_self, hs8, hb8, hj8, put_s, put_b, List.length_set, List.set_set, List.length_append, Nat.mul_one, frzL_I, true_and, and_true]⟩⟩)) | ((with_reducible first | refine dp hcall ?_ ?_); focus (exact ⟨rfl, by first | rfl | (simp only [go_sem, hlt2', hm, encM, I, get3, get11, Option.map_some, List.getElem?_set_self, hs8, hb8, hj8, put_s, put_b, List.length_set, List.set_set, List.length_append, Nat.mul_one, frzL_I, true_and, and_true, AV.pureL, AV.pure]; done), by first | (simp only [go_sem, hlt2', hm, encM, I, get3, get11, Option.map_some, List.getElem?_set_self, hs8, hb8, hj8, put_s, put_b, List.length_set, List.set_set, List.length_append, Nat.mul_one, frzL_I, true_and, and_true, AV.pureL, AV.pure]; done) | rfl⟩)) | ((with_reducible first | refine ds hcall ?_ ?_); focus exact ⟨rfl, rfl⟩) | (simp only [go_sem, hlt2', hm, encM, I, get3, get11, Option.map_some, List.getElem?_set_self, hs8, hb8, hj8, put_s, put_b, List.length_set, List.set_set, List.length_append, Nat.mul_one, frzL_I, true_and, and_true])))
          all_goals first
            | (have e : mk ms j c (n + 1) (v, w) = (m.at_, (n : Int)) := by
                simp only [mk, hm, hmk, mkStep]
                first
                  | exact if_pos ⟨by assumption, by assumption, .inl (by assumption)⟩
                  | exact if_pos ⟨by assumption, by assumption, .inr ⟨by assumption, by assumption⟩⟩
               (first | exact wk_same (by simp only [go_sem, Int.natCast_add, cn, Int.cast_ofNat_Int, e]) | (refine wk_drop ?_ ?_ ?_ ?_ ?_ <;> simp only [go_sem, Int.natCast_add, cn, Int.cast_ofNat_Int, e])))
            | (have e : mk ms j c (n + 1) (v, w) = (v', w') := by
                simp only [mk, hm, hmk, mkStep]
                refine if_neg ?_
                rintro ⟨q1, q2, q3⟩
                rcases q3 with q3 | ⟨q3, q4⟩ <;> first | contradiction | omega | (simp_all; done)
               (first | exact wk_same (by simp only [go_sem, Int.natCast_add, cn, Int.cast_ofNat_Int, e]) | (refine wk_drop ?_ ?_ ?_ ?_ ?_ <;> simp only [go_sem, Int.natCast_add, cn, Int.cast_ofNat_Int, e])))
        · have hge2' : ¬ (n : Int) < ms.length := by omega
          have : n = ms.length := by omega
          subst this
          (repeat' (first | ((with_reducible first | apply sg | apply si | apply sq | apply sd) <;> intro hb <;> (try rw [hb]) <;> (try simp only [bq, bz, dtrue, dfalse] at hb) <;> (try simp only [within, Classical.not_not] at hb) <;> try simp only [go_sem]) | refine And.intro (by first | exact ⟨⟩ | omega | (simp only [I64]; omega)) ?_ | (with_reducible rw [vc_draw_eq]; first | (refine CV.draw (id := 5) sF10e_f122_5 mixed rfl (by kernel_rfl) ?_; delta sF10e_f122_5) | (refine CV.draw (id := 6) sF10e_f122_6 mixed rfl (by kernel_rfl) ?_; delta sF10e_f122_6) | (refine CV.draw (id := 7) sF10e_f122_7 mixed rfl (by kernel_rfl) ?_; delta sF10e_f122_7) | (refine CV.draw (id := 12) sF10e_f122_12 mixed rfl (by kernel_rfl) ?_; delta sF10e_f122_12) | (refine CV.draw (id := 13) sF10e_f122_13 mixed rfl (by kernel_rfl) ?_; delta sF10e_f122_13)) | (simp only [go_sem, hge2'])))
          (first | exact wk_same (by simp only [go_sem, Int.natCast_add, cn, Int.cast_ofNat_Int, fo, hfo, ht, hini, hmk]) | (refine wk_drop ?_ ?_ ?_ ?_ ?_ <;> simp only [go_sem, Int.natCast_add, cn, Int.cast_ofNat_Int, fo, hfo, ht, hini, hmk]))
  · have hge' : ¬ (j : Int) < ts.length := by omega
    have : j = ts.length := by omega
    subst this
    (repeat' (first | ((with_reducible first | apply sg | apply si | apply sq | apply sd) <;> intro hb <;> (try rw [hb]) <;> (try simp only [bq, bz, dtrue, dfalse] at hb) <;> (try simp only [within, Classical.not_not] at hb) <;> try simp only [go_sem]) | refine And.intro (by first | exact ⟨⟩ | omega | (simp only [I64]; omega)) ?_ | (with_reducible rw [vc_draw_eq]; first | (refine CV.draw (id := 5) sF10e_f122_5 mixed rfl (by kernel_rfl) ?_; delta sF10e_f122_5) | (refine CV.draw (id := 6) sF10e_f122_6 mixed rfl (by kernel_rfl) ?_; delta sF10e_f122_6) | (refine CV.draw (id := 7) sF10e_f122_7 mixed rfl (by kernel_rfl) ?_; delta sF10e_f122_7) | (refine CV.draw (id := 12) sF10e_f122_12 mixed rfl (by kernel_rfl) ?_; delta sF10e_f122_12) | (refine CV.draw (id := 13) sF10e_f122_13 mixed rfl (by kernel_rfl) ?_; delta sF10e_f122_13)) | (simp only [go_sem, hge', hfo, frzL_I])))
end Go.Proofs.YtjlopclpofbgbaaDoor

