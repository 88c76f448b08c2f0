/- Contracts of functions of the given program, without a condition beyond those that each theorem states; they lead to the given statement. -/
import Derived.Test.YtjlopclpofbgbaaDoorF10i
set_option linter.unusedSimpArgs false
set_option linter.unusedVariables false
set_option maxRecDepth 100000
namespace Go.Proofs.YtjlopclpofbgbaaDoor
open Go Go.Fl
open Classical
theorem frzN {H : Heap} {l : List Int} : frzE H (l.map encN) (l.map encN) := frzE_self H (l.map encN) (by rw [pureN]; trivial)
noncomputable def fil (q : Int → Prop) (l : List Int) : List Int := l.filter fun x => decide (q x)
theorem take_next {l : List Int} {j : Nat} {x : Int} (hx : l[j]? = some x) : l.take (j + 1) = l.take j ++ [x] := by rw [List.take_add_one, hx]; rfl
theorem fil_yes {q : Int → Prop} {l : List Int} {j : Nat} {x : Int} (hx : l[j]? = some x) (h : q x) : fil q (l.take (j + 1)) = fil q (l.take j) ++ [x] := by
  rw [take_next hx]; simp [fil, h]
theorem fil_no {q : Int → Prop} {l : List Int} {j : Nat} {x : Int} (hx : l[j]? = some x) (h : ¬ q x) : fil q (l.take (j + 1)) = fil q (l.take j) := by
  rw [take_next hx]; simp [fil, h]
theorem fil_all {q : Int → Prop} {l : List Int} {j : Nat} (h : l.length ≤ j) : fil q (l.take j) = fil q l := by rw [List.take_of_length_le h]
theorem fil_len {q : Int → Prop} {l : List Int} : (fil q l).length ≤ l.length := List.length_filter_le _ _
theorem fil_mem {q : Int → Prop} {l : List Int} {x : Int} : x ∈ fil q l ↔ x ∈ l ∧ q x := by simp [fil]
theorem fil_sel {p : Nat → Prop} {q : Int → Prop} : ∀ n, fil q (sel p n) = sel (fun i => p i ∧ q i) n
  | 0 => rfl
  | n + 1 => by
    have ih := fil_sel (p := p) (q := q) n
    by_cases h1 : p n
    · rw [sel_yes h1]
      by_cases h2 : q n
      · rw [sel_yes (p := fun i => p i ∧ q i) ⟨h1, h2⟩, ← ih]; simp [fil, h2]
      · rw [sel_no (p := fun i => p i ∧ q i) fun h => h2 h.2, ← ih]; simp [fil, h2]
    · rw [sel_no h1, sel_no (p := fun i => p i ∧ q i) fun h => h1 h.1, ih]
def pgN (t : Town) : Nat → Int → Int
  | 0, i => i
  | n + 1, i => if ofT t i = -1 then i else pgN t n (ofT t i)
def pg (t : Town) (i : Int) : Int := pgN t (i.toNat + 1) i
def itr (t : Town) (i : Int) : Nat → Int
  | 0 => i
  | j + 1 => ofT t (itr t i j)
theorem of_lt {t : Town} (hv : okThings t.ts) {i : Int} (h0 : 0 ≤ i) (h1 : i < t.ts.length) : -1 ≤ ofT t i ∧ ofT t i < i := by
  obtain ⟨x, hx⟩ := get_of (l := t.ts) (j := i.toNat) (by omega)
  have := (hv _ x hx).1
  rw [ofT_of hx]
  unfold within at this
  omega
theorem pgN_more {t : Town} (hv : okThings t.ts) : ∀ (n m : Nat) (i : Int), 0 ≤ i → i < n → i < m → i < t.ts.length → pgN t n i = pgN t m i
  | 0, _, i, h0, h1, _, _ => by omega
  | _ + 1, 0, i, h0, _, h2, _ => by omega
  | n + 1, m + 1, i, h0, h1, h2, h3 => by
    have := of_lt hv h0 h3
    simp only [pgN]
    by_cases e : ofT t i = -1
    · rw [if_pos e, if_pos e]
    · rw [if_neg e, if_neg e]
      exact pgN_more hv n m _ (by omega) (by omega) (by omega) (by omega)
theorem pg_root {t : Town} {i : Int} (h : ofT t i = -1) : pg t i = i := by simp only [pg, pgN]; rw [if_pos h]
theorem pg_up {t : Town} (hv : okThings t.ts) {i : Int} (h0 : 0 ≤ i) (h1 : i < t.ts.length) (h : ofT t i ≠ -1) : pg t i = pg t (ofT t i) := by
  have := of_lt hv h0 h1
  simp only [pg]
  rw [show pgN t (i.toNat + 1) i = pgN t i.toNat (ofT t i) from by rw [pgN, if_neg h]]
  exact pgN_more hv _ _ _ (by omega) (by omega) (by omega) (by omega)
theorem pg_ok {t : Town} (hv : okThings t.ts) : ∀ (n : Nat) (i : Int), i < n → 0 ≤ i → i < t.ts.length → 0 ≤ pg t i ∧ pg t i ≤ i ∧ ofT t (pg t i) = -1
  | 0, i, h, h0, _ => by omega
  | n + 1, i, h, h0, h1 => by
    have := of_lt hv h0 h1
    by_cases e : ofT t i = -1
    · rw [pg_root e]; exact ⟨h0, by omega, e⟩
    · rw [pg_up hv h0 h1 e]
      have := pg_ok hv n (ofT t i) (by omega) (by omega) (by omega)
      omega
theorem pg_page {t : Town} (hv : okThings t.ts) {i : Int} (h0 : 0 ≤ i) (h1 : i < t.ts.length) : isPage t (pg t i) := by
  have := pg_ok hv (i.toNat + 1) i (by omega) h0 h1
  exact ⟨by unfold within; omega, this.2.2⟩
theorem c47 (t : Town) (hv : okThings t.ts) (i : Int) (h0 : 0 ≤ i) (h1 : i < t.ts.length) : PC Tryd.prog 47 [hF t, .int .i64 i] (.int .i64 (pg t i)) := by
  refine PC.body Tryd.func47 (by kernel_rfl) rfl (by simp [Tryd.f47]) rfl ?_
  simp only [Tryd.f47]
  intro hlen
  simp only [go_sem, List.length_map, and_true, true_and] at hlen
  refine CV.run ?_
  (repeat' (first | ((with_reducible first | apply sg | apply si | apply sq | apply sd) <;> intro hb <;> (try rw [hb]) <;> (try simp only [bq, bz, dtrue, dfalse] at hb) <;> (try simp only [within] at hb) <;> try simp only [go_sem]) | refine And.intro (by first | exact ⟨⟩ | omega | (simp only [I64]; omega)) ?_ | (simp only [go_sem])))
  refine vc_for (fun j => ⟨[(1, .int .i64 (itr t i j)), (2, .lp 0 0), (4, .int .i64 0)], [.box 28 (cT t) false]⟩) i.toNat (fun j => 0 ≤ itr t i j ∧ itr t i j + j ≤ i ∧ pg t (itr t i j) = pg t i) (by (first | exact wk_same (by simp only [go_sem, Int.natCast_add, cn, Int.cast_ofNat_Int, itr]) | (refine wk_drop ?_ ?_ ?_ ?_ ?_ <;> simp only [go_sem, Int.natCast_add, cn, Int.cast_ofNat_Int, itr]))) ⟨by simpa [itr] using h0, by simp [itr], rfl⟩ ?_
  intro j hj hx
  obtain ⟨x1, x2, x3⟩ := hx
  generalize he : itr t i j = e at x1 x2 x3 ⊢
  obtain ⟨x, hx⟩ := get_of (l := t.ts) (j := e.toNat) (by omega)
  have eo := ofT_of hx
  have hi : e < t.ts.length := by omega
  have hlt := of_lt hv x1 hi
  have e1 : itr t i (j + 1) = x.of := by rw [← eo, ← he]; rfl
  by_cases h : x.of = -1
  · have e2 := pg_root (eo.trans h)
    (repeat' (first | ((with_reducible first | apply sg | apply si | apply sq | apply sd) <;> intro hb <;> (try rw [hb]) <;> (try simp only [bq, bz, dtrue, dfalse] at hb) <;> (try simp only [within] at hb) <;> try simp only [go_sem]) | refine And.intro (by first | exact ⟨⟩ | omega | (simp only [I64]; omega)) ?_ | (simp only [go_sem, hx, hi, h, encT])))
    all_goals first
      | omega
      | rw [← x3, e2]
  · have e2 := pg_up hv x1 hi (by rw [eo]; exact h)
    (repeat' (first | ((with_reducible first | apply sg | apply si | apply sq | apply sd) <;> intro hb <;> (try rw [hb]) <;> (try simp only [bq, bz, dtrue, dfalse] at hb) <;> (try simp only [within] at hb) <;> try simp only [go_sem]) | refine And.intro (by first | exact ⟨⟩ | omega | (simp only [I64]; omega)) ?_ | (simp only [go_sem, hx, hi, h, encT])))
    all_goals first
      | omega
      | (refine ⟨by (first | exact wk_same (by simp only [go_sem, Int.natCast_add, cn, Int.cast_ofNat_Int, e1]) | (refine wk_drop ?_ ?_ ?_ ?_ ?_ <;> simp only [go_sem, Int.natCast_add, cn, Int.cast_ofNat_Int, e1])), ?_, ?_, ?_⟩ <;> rw [e1, ← eo] <;> first | omega | (rw [← e2]; exact x3))
abbrev thP (t : Town) (p : Int) (i : Nat) : Prop := there t i ∧ pg t i = p
noncomputable def thg (t : Town) (p : Int) : List Int := sel (thP t p) t.ts.length
theorem thg_mem {t : Town} {p x : Int} : x ∈ thg t p ↔ 0 ≤ x ∧ x < t.ts.length ∧ there t x ∧ pg t x = p := by
  unfold thg
  rw [sel_mem]
  constructor
  · rintro ⟨i, h1, rfl, h2, h3⟩; exact ⟨by omega, by omega, h2, h3⟩
  · rintro ⟨h0, h1, h2, h3⟩
    obtain ⟨n, rfl⟩ : ∃ n : Nat, x = n := ⟨x.toNat, by omega⟩
    exact ⟨n, by omega, rfl, h2, h3⟩
set_option maxHeartbeats 1000000 in
theorem c45 (t : Town) (hv : okThings t.ts) (hl : t.ts.length ≤ 1000) (p : Int) : PC Tryd.prog 45 [hF t, .int .i64 p] (lN (thg t p)) := by
  refine PC.body Tryd.func45 (by kernel_rfl) rfl (by simp [Tryd.f45]) rfl ?_
  simp only [Tryd.f45]
  intro hlen
  simp only [go_sem, List.length_map, and_true, true_and] at hlen
  refine CV.run ?_
  (repeat' (first | ((with_reducible first | apply sg | apply si | apply sq | apply sd) <;> intro hb <;> (try rw [hb]) <;> (try simp only [bq, bz, dtrue, dfalse] at hb) <;> (try simp only [within] at hb) <;> try simp only [go_sem]) | refine And.intro (by first | exact ⟨⟩ | omega | (simp only [I64]; omega)) ?_ | (simp only [go_sem])))
  refine vc_fw (fun j => ⟨[(6, .int .i64 j), (5, .row 1 (sel (thP t p) j).length), (1, .int .i64 p), (2, .lp 0 0), (4, .nilS)], [.box 28 (cT t) false, .row 3 1 ((sel (thP t p) j).map encN) false]⟩) t.ts.length (fun _ => True) (.nilE 5 3 1 (by (simp only [go_sem])) (by omega) (.base (by (first | exact wk_same (by simp only [go_sem, Int.natCast_add, cn, Int.cast_ofNat_Int, sel, List.map_nil]) | (refine wk_drop ?_ ?_ ?_ ?_ ?_ <;> simp only [go_sem, Int.natCast_add, cn, Int.cast_ofNat_Int, sel, List.map_nil]))))) trivial ?_
  intro j hj _
  have hsl := sel_len (thP t p) j
  rcases Nat.lt_or_ge j t.ts.length with hlt | hge
  · have hlt' : (j : Int) < t.ts.length := by omega
    have h55 := c55 t j (by unfold within; omega)
    have h47 := c47 t hv j (by omega) hlt'
    by_cases h1 : there t j
    · by_cases h2 : pg t j = p
      · have e := sel_yes (p := thP t p) (n := j) ⟨h1, h2⟩
        have h55' := h55.tru h1
        (repeat' (first | ((with_reducible first | apply sg | apply si | apply sq | apply sd) <;> intro hb <;> (try rw [hb]) <;> (try simp only [bq, bz, dtrue, dfalse] at hb) <;> (try simp only [within] at hb) <;> try simp only [go_sem]) | refine And.intro (by first | exact ⟨⟩ | omega | (simp only [I64]; omega)) ?_ | ((with_reducible first | refine vp h55' ?_ ?_ | refine vp h47 ?_ ?_); focus (first | exact ⟨rfl, .inl ⟨by first | rfl | (simp only [go_sem, hlt', h2, List.length_map, AV.pureL, AV.pure]; done), by first | (simp only [go_sem, hlt', h2, List.length_map, AV.pureL, AV.pure]; done) | rfl⟩⟩ | exact ⟨rfl, .inr ⟨rfl, by simp only [go_sem, hlt', h2, List.length_map]⟩⟩)) | (simp only [go_sem, hlt', h2, List.length_map])))
        all_goals first
          | omega
          | exact .base (by (first | exact wk_same (by simp only [go_sem, Int.natCast_add, cn, Int.cast_ofNat_Int, e, List.map_append, encN, List.length_append, List.length_cons, List.length_nil]) | (refine wk_drop ?_ ?_ ?_ ?_ ?_ <;> simp only [go_sem, Int.natCast_add, cn, Int.cast_ofNat_Int, e, List.map_append, encN, List.length_append, List.length_cons, List.length_nil])))
      · have e := sel_no (p := thP t p) (n := j) fun h => h2 h.2
        have h55' := h55.tru h1
        (repeat' (first | ((with_reducible first | apply sg | apply si | apply sq | apply sd) <;> intro hb <;> (try rw [hb]) <;> (try simp only [bq, bz, dtrue, dfalse] at hb) <;> (try simp only [within] at hb) <;> try simp only [go_sem]) | refine And.intro (by first | exact ⟨⟩ | omega | (simp only [I64]; omega)) ?_ | ((with_reducible first | refine vp h55' ?_ ?_ | refine vp h47 ?_ ?_); focus (first | exact ⟨rfl, .inl ⟨by first | rfl | (simp only [go_sem, hlt', h2, List.length_map, AV.pureL, AV.pure]; done), by first | (simp only [go_sem, hlt', h2, List.length_map, AV.pureL, AV.pure]; done) | rfl⟩⟩ | exact ⟨rfl, .inr ⟨rfl, by simp only [go_sem, hlt', h2, List.length_map]⟩⟩)) | (simp only [go_sem, hlt', h2, List.length_map])))
        all_goals first
          | omega
          | exact .base (by (first | exact wk_same (by simp only [go_sem, Int.natCast_add, cn, Int.cast_ofNat_Int, e]) | (refine wk_drop ?_ ?_ ?_ ?_ ?_ <;> simp only [go_sem, Int.natCast_add, cn, Int.cast_ofNat_Int, e])))
    · have e := sel_no (p := thP t p) (n := j) fun h => h1 h.1
      have h55' := h55.fls h1
      (repeat' (first | ((with_reducible first | apply sg | apply si | apply sq | apply sd) <;> intro hb <;> (try rw [hb]) <;> (try simp only [bq, bz, dtrue, dfalse] at hb) <;> (try simp only [within] at hb) <;> try simp only [go_sem]) | refine And.intro (by first | exact ⟨⟩ | omega | (simp only [I64]; omega)) ?_ | ((with_reducible first | refine vp h55' ?_ ?_ | refine vp h47 ?_ ?_); focus (first | exact ⟨rfl, .inl ⟨by first | rfl | (simp only [go_sem, hlt', List.length_map, AV.pureL, AV.pure]; done), by first | (simp only [go_sem, hlt', List.length_map, AV.pureL, AV.pure]; done) | rfl⟩⟩ | exact ⟨rfl, .inr ⟨rfl, by simp only [go_sem, hlt', List.length_map]⟩⟩)) | (simp only [go_sem, hlt', List.length_map])))
      all_goals first
        | omega
        | exact .base (by (first | exact wk_same (by simp only [go_sem, Int.natCast_add, cn, Int.cast_ofNat_Int, e]) | (refine wk_drop ?_ ?_ ?_ ?_ ?_ <;> simp only [go_sem, Int.natCast_add, cn, Int.cast_ofNat_Int, e])))
  · have hge' : ¬ (j : Int) < t.ts.length := by omega
    have : j = t.ts.length := by omega
    subst this
    (repeat' (first | ((with_reducible first | apply sg | apply si | apply sq | apply sd) <;> intro hb <;> (try rw [hb]) <;> (try simp only [bq, bz, dtrue, dfalse] at hb) <;> (try simp only [within] at hb) <;> try simp only [go_sem]) | refine And.intro (by first | exact ⟨⟩ | omega | (simp only [I64]; omega)) ?_ | (simp only [go_sem, hge', List.length_map])))
    all_goals exact frzN
def lkP (t : Town) (i : Int) (c : Nat) : Prop := (∃ x, x ∈ thg t (pg t i) ∧ hasAt t.ts t.ms c x t.mi) ∧ ¬ hasAt t.ts t.ms c i t.mi
noncomputable def lks (t : Town) (i : Int) : List Int := sel (lkP t i) 3
def anyTo (q : Int → Prop) (l : List Int) (j : Nat) : Prop := ∃ x, x ∈ l.take j ∧ q x
theorem any_zero {q : Int → Prop} {l : List Int} : ¬ anyTo q l 0 := by rintro ⟨x, h, _⟩; simp at h
theorem any_old {q : Int → Prop} {l : List Int} {j : Nat} (h : anyTo q l j) : anyTo q l (j + 1) := by
  obtain ⟨x, h1, h2⟩ := h
  exact ⟨x, List.take_subset_take_left _ (by omega) h1, h2⟩
theorem any_new {q : Int → Prop} {l : List Int} {j : Nat} {x : Int} (hx : l[j]? = some x) (h : q x) : anyTo q l (j + 1) := ⟨x, by rw [take_next hx]; simp, h⟩
theorem any_no {q : Int → Prop} {l : List Int} {j : Nat} {x : Int} (hx : l[j]? = some x) (h : ¬ q x) (h0 : ¬ anyTo q l j) : ¬ anyTo q l (j + 1) := by
  rintro ⟨y, h1, h2⟩
  rw [take_next hx, List.mem_append, List.mem_singleton] at h1
  rcases h1 with h1 | rfl
  · exact h0 ⟨y, h1, h2⟩
  · exact h h2
theorem any_all {q : Int → Prop} {l : List Int} {j : Nat} (h : l.length ≤ j) : anyTo q l j ↔ ∃ x, x ∈ l ∧ q x := by unfold anyTo; rw [List.take_of_length_le h]
def fr (t : Town) (i : Int) : Prop := there t i ∧ lks t i = []
end Go.Proofs.YtjlopclpofbgbaaDoor

