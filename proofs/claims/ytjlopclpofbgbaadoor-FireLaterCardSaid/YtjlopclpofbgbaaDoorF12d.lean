/- Contracts of functions of the given program, without a condition beyond those that each theorem states; they lead to the given statement. -/
import Derived.Test.YtjlopclpofbgbaaDoorF12b
set_option linter.unusedSimpArgs false
set_option linter.unusedVariables false
set_option linter.unusedSectionVars false
set_option maxRecDepth 100000
namespace Go.Proofs.YtjlopclpofbgbaaDoor
open Go Go.Fl
open Classical
abbrev lessT (t : Town) (N : Nat) : Town := { t with ts := t.ts.take N, ms := t.ms.filter fun m => decide (m.thing ≠ N), pl := t.pl.take N, ca := t.ca.take N }
structure Less (t : Town) (N : Nat) : Prop where
  v : validT t
  o : validT (lessT t N)
  n : t.ts.length = N + 1
  no : ¬ there t N
theorem gv_take {l : List Int} {N i : Nat} (h : i < N) : gv (l.take N) i = gv l i := by
  simp only [gv, Int.toNat_natCast, List.getElem?_take, if_pos h]
section
variable {t : Town} {N : Nat} (H : Less t N)
include H
theorem Less.len : (lessT t N).ts.length = N := by
  show (t.ts.take N).length = N
  rw [List.length_take, H.n]; omega
theorem Less.get {i : Int} (h0 : 0 ≤ i) (h1 : i < N) : (lessT t N).ts[i.toNat]? = t.ts[i.toNat]? := by
  show (t.ts.take N)[i.toNat]? = _
  rw [List.getElem?_take, if_pos (by omega)]
theorem Less.ofT {i : Int} (h0 : 0 ≤ i) (h1 : i < N) : ofT (lessT t N) i = YtjlopclpofbgbaaDoor.ofT t i := by unfold YtjlopclpofbgbaaDoor.ofT; rw [H.get h0 h1]
theorem Less.there {i : Int} (h0 : 0 ≤ i) (h1 : i < N) : there (lessT t N) i ↔ YtjlopclpofbgbaaDoor.there t i := by unfold YtjlopclpofbgbaaDoor.there atT upAt; rw [H.get h0 h1]
theorem Less.pgN : ∀ (n : Nat) (i : Int), 0 ≤ i → i < N → pgN (lessT t N) n i = YtjlopclpofbgbaaDoor.pgN t n i
  | 0, i, _, _ => rfl
  | n + 1, i, h0, h1 => by
    have hl := of_lt H.v.things h0 (by rw [H.n]; omega)
    simp only [YtjlopclpofbgbaaDoor.pgN]
    rw [H.ofT h0 h1]
    split
    · rfl
    · rename_i h
      exact Less.pgN n _ (by omega) (by omega)
theorem Less.pg {i : Int} (h0 : 0 ≤ i) (h1 : i < N) : pg (lessT t N) i = YtjlopclpofbgbaaDoor.pg t i := H.pgN _ _ h0 h1
theorem Less.hasOf {c : Int} : ∀ (n : Nat) (i at_ : Int), 0 ≤ i → i < N → (hasOf (lessT t N).ts (lessT t N).ms c n i at_ ↔ YtjlopclpofbgbaaDoor.hasOf t.ts t.ms c n i at_)
  | 0, i, at_, _, _ => by simp [YtjlopclpofbgbaaDoor.hasOf]
  | n + 1, i, at_, h0, h1 => by
    simp only [YtjlopclpofbgbaaDoor.hasOf]
    rw [H.get h0 h1]
    refine exists_congr fun u => and_congr_right fun hu => and_congr_right fun _ => or_congr ?_ (and_congr_right fun hne => ?_)
    · constructor
      · rintro ⟨m, m1, m2⟩
        exact ⟨m, (List.mem_filter.1 m1).1, m2⟩
      · rintro ⟨m, m1, m2, m3, m4⟩
        exact ⟨m, List.mem_filter.2 ⟨m1, decide_eq_true (by omega)⟩, m2, m3, m4⟩
    · have hof := ofT_of hu
      have hl := of_lt H.v.things h0 (by rw [H.n]; omega)
      rw [hof] at hl
      exact Less.hasOf n _ _ (by omega) (by omega)
theorem Less.has {c i : Int} (h0 : 0 ≤ i) (h1 : i < N) : hasAt (lessT t N).ts (lessT t N).ms c i (lessT t N).mi ↔ hasAt t.ts t.ms c i t.mi := H.hasOf _ _ _ h0 h1
theorem Less.low {x : Int} (h0 : 0 ≤ x) (h1 : x < t.ts.length) (h : YtjlopclpofbgbaaDoor.there t x) : x < N := by
  have hn := H.n
  rcases Int.lt_or_le x N with q | q
  · exact q
  · have : x = N := by omega
    subst this; exact absurd h H.no
theorem Less.thg (p : Int) : thg (lessT t N) p = YtjlopclpofbgbaaDoor.thg t p := by
  unfold YtjlopclpofbgbaaDoor.thg
  rw [H.len, H.n, sel_no fun h => H.no h.1]
  refine sel_congr _ fun i hi => ?_
  rw [thP, thP, H.there (by omega) (by omega), H.pg (by omega) (by omega)]
theorem Less.thg_low {p x : Int} (h : x ∈ YtjlopclpofbgbaaDoor.thg t p) : 0 ≤ x ∧ x < N := by
  obtain ⟨h1, h2, h3, _⟩ := thg_mem.1 h
  exact ⟨h1, H.low h1 h2 h3⟩
theorem Less.lks {i : Int} (h0 : 0 ≤ i) (h1 : i < N) : lks (lessT t N) i = YtjlopclpofbgbaaDoor.lks t i := by
  unfold YtjlopclpofbgbaaDoor.lks
  refine sel_congr _ fun c _ => ?_
  unfold lkP
  rw [H.pg h0 h1, H.thg, H.has h0 h1]
  refine and_congr_left fun _ => exists_congr fun x => and_congr_right fun hx => ?_
  obtain ⟨x1, x2⟩ := H.thg_low hx
  exact H.has x1 x2
theorem Less.fr {i : Int} (h0 : 0 ≤ i) (h1 : i < N) : fr (lessT t N) i ↔ YtjlopclpofbgbaaDoor.fr t i := by
  unfold YtjlopclpofbgbaaDoor.fr
  rw [H.lks h0 h1, H.there h0 h1]
theorem Less.pags : pags (lessT t N) = YtjlopclpofbgbaaDoor.pags t := by
  unfold YtjlopclpofbgbaaDoor.pags
  rw [H.len, H.n, sel_no (p := pgP t) (n := N)]
  · refine sel_congr _ fun i hi => ?_
    unfold pgP isPage within
    rw [H.thg, H.len, H.n, H.ofT (by omega) (by omega)]
    refine and_congr_left fun _ => and_congr_left fun _ => ?_
    omega
  · rintro ⟨_, h⟩
    obtain ⟨x, hx⟩ := List.exists_mem_of_ne_nil _ h
    obtain ⟨x1, x2⟩ := H.thg_low hx
    obtain ⟨_, x3, _, x4⟩ := thg_mem.1 hx
    have := pg_ok H.v.things (x.toNat + 1) x (by omega) x1 x3
    omega
theorem Less.stays {b i : Int} (h0 : 0 ≤ i) (h1 : i < N) : stays (lessT t N) b i ↔ YtjlopclpofbgbaaDoor.stays t b i := by
  unfold YtjlopclpofbgbaaDoor.stays
  rw [H.there h0 h1]
  obtain ⟨k, rfl⟩ : ∃ k : Nat, i = k := ⟨i.toNat, by omega⟩
  have e : gv (lessT t N).pl (k : Int) = gv t.pl k := gv_take (by omega)
  rw [e]
theorem Less.lft (b p : Int) : lft (lessT t N) (YtjlopclpofbgbaaDoor.thg (lessT t N) p) b = YtjlopclpofbgbaaDoor.lft t (YtjlopclpofbgbaaDoor.thg t p) b := by
  rw [H.thg]
  unfold YtjlopclpofbgbaaDoor.lft fil
  refine List.filter_congr fun x hx => ?_
  obtain ⟨x1, x2⟩ := H.thg_low hx
  exact decide_eq_decide.2 (H.stays x1 x2)
theorem Less.all (b : Int) : YtjlopclpofbgbaaDoor.lft (lessT t N) (allI (lessT t N).ts.length) b = YtjlopclpofbgbaaDoor.lft t (allI t.ts.length) b := by
  rw [lft_all, lft_all, H.len, H.n, sel_no fun h => H.no h.1]
  exact sel_congr _ fun i hi => H.stays (by omega) (by omega)
theorem Less.los (b : Int) : los (lessT t N) b = YtjlopclpofbgbaaDoor.los t b := by
  unfold YtjlopclpofbgbaaDoor.los fil
  rw [H.pags]
  refine List.filter_congr fun p _ => ?_
  refine decide_eq_decide.2 ?_
  unfold losP
  rw [H.lft]
theorem Less.sta (b : Int) : sta (lessT t N) b = YtjlopclpofbgbaaDoor.sta t b := by
  unfold YtjlopclpofbgbaaDoor.sta fil
  rw [H.pags]
  refine List.filter_congr fun p _ => ?_
  refine decide_eq_decide.2 ?_
  unfold staP
  rw [H.lft]
  refine and_congr_right fun _ => not_congr (exists_congr fun x => and_congr_right fun hx => ?_)
  obtain ⟨x1, x2⟩ := H.thg_low (fil_mem.1 hx).1
  exact H.fr x1 x2
theorem Less.wb : ∀ k, wb (lessT t N) k = YtjlopclpofbgbaaDoor.wb t k
  | 0 => rfl
  | k + 1 => by
    have e : ∀ a b : Int, beats (lessT t N) a b ↔ beats t a b := fun a b => by unfold beats; rw [H.los, H.los, H.sta, H.sta]
    simp only [YtjlopclpofbgbaaDoor.wb]
    rw [Less.wb k]
    by_cases q : beats t k (YtjlopclpofbgbaaDoor.wb t k)
    · rw [if_pos q, if_pos ((e _ _).2 q)]
    · rw [if_neg q, if_neg fun h => q ((e _ _).1 h)]
theorem Less.safe : safeP (lessT t N) ↔ safeP t := by
  unfold safeP
  refine forall_congr' fun b => imp_congr_right fun _ => ?_
  rw [H.los, H.sta]
variable {l m : List Int} (hl : l.length = N) (hm : m.length = N + 1) (hlm : ∀ i : Nat, i < N → gv m i = gv l i) (hmN : gv m N = gv t.pl N)
include hl hm hlm hmN
theorem Less.cnt (b : Int) : ∀ k : Nat, k ≤ N → cntP t m b k = cntP (lessT t N) l b k
  | 0, _ => rfl
  | k + 1, hk => by
    have ih := Less.cnt b k (by omega)
    have e : (gv m k = b ∧ YtjlopclpofbgbaaDoor.there t k) ↔ (gv l k = b ∧ YtjlopclpofbgbaaDoor.there (lessT t N) k) := by
      rw [hlm k (by omega), H.there (by omega) (by omega)]
    by_cases q : gv m k = b ∧ YtjlopclpofbgbaaDoor.there t k
    · rw [cntP_yes q, cntP_yes (e.1 q), ih]
    · rw [cntP_no q, cntP_no fun h => q (e.2 h), ih]
theorem Less.roomy : roomy t m ↔ roomy (lessT t N) l := by
  unfold YtjlopclpofbgbaaDoor.roomy
  refine forall_congr' fun b => imp_congr_right fun _ => ?_
  rw [hm, cntP_no fun h => H.no h.2, H.cnt hl hm hlm hmN b N (Nat.le_refl _), hl]
theorem Less.car : isCar t m ↔ isCar (lessT t N) l := by
  unfold isCar
  rw [hm, hl, H.len, H.n]
  refine and_congr ⟨fun _ => rfl, fun _ => rfl⟩ ?_
  have key : ∀ i : Nat, i < N → (carP t m i ↔ carP (lessT t N) l i) := fun i hi => by
    unfold carP
    rw [hlm i hi, H.there (by omega) (by omega)]
    have e : gv (lessT t N).pl (i : Int) = gv t.pl i := gv_take hi
    rw [e]
  constructor
  · intro h i hi; exact (key i hi).1 (h i (by omega))
  · intro h i hi
    rcases Nat.lt_or_ge i N with q | q
    · exact (key i q).2 (h i q)
    · have : i = N := by omega
      subst this
      unfold carP
      have := pl_bnd H.v (i := i) (by rw [H.n]; omega)
      rw [hmN]
      exact ⟨this.1, this.2, .inl rfl⟩
theorem Less.two (p : Int) : twoB t m p ↔ twoB (lessT t N) l p := by
  unfold twoB
  rw [H.len, H.n]
  constructor
  · rintro ⟨i, j, i1, j1, f1, f2, p1, p2, ne⟩
    have i2 := H.low (x := (i : Int)) (by omega) (by rw [H.n]; omega) f1.1
    have j2 := H.low (x := (j : Int)) (by omega) (by rw [H.n]; omega) f2.1
    refine ⟨i, j, by omega, by omega, (H.fr (by omega) i2).2 f1, (H.fr (by omega) j2).2 f2, by rw [H.pg (by omega) i2]; exact p1, by rw [H.pg (by omega) j2]; exact p2, ?_⟩
    rw [← hlm i (by omega), ← hlm j (by omega)]; exact ne
  · rintro ⟨i, j, i1, j1, f1, f2, p1, p2, ne⟩
    refine ⟨i, j, by omega, by omega, (H.fr (by omega) (by omega)).1 f1, (H.fr (by omega) (by omega)).1 f2, by rw [← H.pg (by omega) (by omega)]; exact p1, by rw [← H.pg (by omega) (by omega)]; exact p2, ?_⟩
    rw [hlm i (by omega), hlm j (by omega)]; exact ne
theorem Less.end (hc : isCar t m) : endP t m ↔ endP (lessT t N) l := by
  rw [end_two H.v hc, end_two H.o ((H.car hl hm hlm hmN).1 hc), H.roomy hl hm hlm hmN, H.pags]
  refine and_congr_right fun _ => forall_congr' fun p => imp_congr_right fun _ => ?_
  exact H.two hl hm hlm hmN p
theorem Less.cst : cst t m = cst (lessT t N) l := by
  have key : ∀ k : Nat, k ≤ N → cstN t m k = cstN (lessT t N) l k := fun k => by
    induction k with
    | zero => intro _; rfl
    | succ k ih =>
      intro hk
      have e : gv (lessT t N).pl (k : Int) = gv t.pl k := gv_take (by omega)
      have e2 : gv (lessT t N).ca (k : Int) = gv t.ca k := gv_take (by omega)
      simp only [cstN]
      rw [ih (by omega), hlm k (by omega), e, e2]
  unfold YtjlopclpofbgbaaDoor.cst
  rw [hm, hl, cstN, if_pos hmN]
  exact key N (Nat.le_refl _)
end
theorem Less.up {t : Town} {N : Nat} (H : Less t N) {l : List Int} (hl : l.length = N) : (l ++ [gv t.pl N]).length = N + 1 ∧ (∀ i : Nat, i < N → gv (l ++ [gv t.pl N]) i = gv l i) ∧ gv (l ++ [gv t.pl N]) N = gv t.pl N := by
  refine ⟨by simp [hl], fun i hi => gv_app (by omega), ?_⟩
  have := gv_end (l := l) (r := []) (x := gv t.pl N)
  rw [hl] at this
  exact this
theorem Less.rem {t : Town} {N : Nat} (H : Less t N) : pS (remT (lessT t N)) = pS (remT t) ∧ eS (remT (lessT t N)) = eS (remT t) := by
  have a1 : ∀ {x : List Int × Int × Int}, remT (lessT t N) = some x → ∃ y, remT t = some y ∧ ¬ lexlt x.2 y.2 := fun {x} hx => by
    obtain ⟨x1, x2, x3, _⟩ := rem_bnd H.o hx
    have hl : x.1.length = N := by rw [x2.1, H.len]
    obtain ⟨u1, u2, u3⟩ := H.up hl
    have hc := (H.car hl u1 u2 u3).2 x2
    have he := (H.end hl u1 u2 u3 hc).2 x3
    obtain ⟨y, hy⟩ := rem_some H.v hc he
    have := (rem_least H.v hy hc he).1
    rw [H.cst hl u1 u2 u3, ← x1] at this
    exact ⟨y, hy, this⟩
  have a2 : ∀ {x : List Int × Int × Int}, remT t = some x → ∃ y, remT (lessT t N) = some y ∧ ¬ lexlt x.2 y.2 := fun {x} hx => by
    obtain ⟨x1, x2, x3, _⟩ := rem_bnd H.v hx
    have hm : x.1.length = N + 1 := by rw [x2.1, H.n]
    have hl : (x.1.take N).length = N := by rw [List.length_take]; omega
    have u2 : ∀ i : Nat, i < N → gv x.1 i = gv (x.1.take N) i := fun i hi => (gv_take hi).symm
    have u3 : gv x.1 N = gv t.pl N := by
      rcases (x2.2 N (by omega)).2.2 with q | q
      · exact q
      · exact absurd q H.no
    have hc := (H.car hl hm u2 u3).1 x2
    have he := (H.end hl hm u2 u3 x2).1 x3
    obtain ⟨y, hy⟩ := rem_some H.o hc he
    have := (rem_least H.o hy hc he).1
    rw [← H.cst hl hm u2 u3, ← x1] at this
    exact ⟨y, hy, this⟩
  rcases e1 : remT t with _ | x
  · rcases e2 : remT (lessT t N) with _ | y
    · exact ⟨rfl, rfl⟩
    · obtain ⟨z, hz, _⟩ := a1 e2
      rw [e1] at hz; cases hz
  · obtain ⟨y, hy, h1⟩ := a2 e1
    obtain ⟨z, hz, h2⟩ := a1 hy
    rw [e1] at hz; cases hz
    rw [hy]
    refine ⟨?_, rfl⟩
    show y.2.1 = x.2.1
    unfold lexlt at h1 h2
    omega
end Go.Proofs.YtjlopclpofbgbaaDoor

