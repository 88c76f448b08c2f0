/- Contracts of functions of the given program, without a condition beyond those that each theorem states; they lead to the given statement. -/
import Derived.Test.YtjlopclpofbgbaaDoorF12a
set_option linter.unusedSimpArgs false
set_option linter.unusedVariables false
set_option linter.unusedSectionVars false
set_option maxRecDepth 100000
namespace Go.Proofs.YtjlopclpofbgbaaDoor
open Go Go.Fl
open Classical
theorem pgs_mem {t : Town} {p : Int} : p ∈ pags t ↔ isPage t p ∧ thg t p ≠ [] := by
  unfold pags
  rw [sel_mem]
  constructor
  · rintro ⟨i, h1, rfl, h2⟩; exact h2
  · rintro ⟨h1, h2⟩
    have hw := h1.1
    unfold within at hw
    obtain ⟨n, rfl⟩ : ∃ n : Nat, p = n := ⟨p.toNat, by omega⟩
    exact ⟨n, by omega, rfl, h1, h2⟩
theorem none_law {t : Town} (hv : validT t) {p : Int} (hp : isPage t p) (hn : thg t p ≠ []) {x : List Int × Int × Int} (h : remT t = some x) : 2 ≤ (fil (fr t) (thg t p)).length ∧ 2 ≤ t.rm.length := by
  obtain ⟨_, h2, h3, _⟩ := rem_bnd hv h
  obtain ⟨_, h4⟩ := (end_two hv h2).1 h3
  obtain ⟨i, j, i1, j1, fi, fj, pi, pj, ne⟩ := h4 p (pgs_mem.2 ⟨hp, hn⟩)
  have e : fil (fr t) (thg t p) = sel (fun i => thP t p i ∧ fr t i) t.ts.length := fil_sel _
  rw [e, two_sel]
  have hij : i ≠ j := fun e => ne (by rw [e])
  have ci := h2.2 i (by rw [h2.1]; exact i1)
  have cj := h2.2 j (by rw [h2.1]; exact j1)
  unfold carP at ci cj
  refine ⟨?_, by omega⟩
  rcases Nat.lt_or_ge i j with q | q
  · exact ⟨i, j, q, j1, ⟨⟨fi.1, pi⟩, fi⟩, ⟨fj.1, pj⟩, fj⟩
  · exact ⟨j, i, by omega, i1, ⟨⟨fj.1, pj⟩, fj⟩, ⟨fi.1, pi⟩, fi⟩
structure Hs (t o : Town) : Prop where
  ts : o.ts = t.ts
  ms : o.ms = t.ms
  mi : o.mi = t.mi
section
variable {t o : Town} (h : Hs t o)
include h
theorem Hs.symm : Hs o t := ⟨h.ts.symm, h.ms.symm, h.mi.symm⟩
theorem Hs.ofT (i : Int) : ofT o i = YtjlopclpofbgbaaDoor.ofT t i := by unfold YtjlopclpofbgbaaDoor.ofT; rw [h.ts]
theorem Hs.pgN : ∀ (n : Nat) (i : Int), pgN o n i = YtjlopclpofbgbaaDoor.pgN t n i
  | 0, i => rfl
  | n + 1, i => by simp only [YtjlopclpofbgbaaDoor.pgN, h.ofT, Hs.pgN n]
theorem Hs.pg (i : Int) : pg o i = YtjlopclpofbgbaaDoor.pg t i := h.pgN _ _
theorem Hs.there (i : Int) : there o i = YtjlopclpofbgbaaDoor.there t i := by unfold YtjlopclpofbgbaaDoor.there atT; rw [h.ts, h.mi]
theorem Hs.thg (p : Int) : thg o p = YtjlopclpofbgbaaDoor.thg t p := by
  unfold YtjlopclpofbgbaaDoor.thg
  rw [h.ts]
  exact sel_congr _ fun i _ => by rw [thP, thP, h.there, h.pg]
theorem Hs.lks (i : Int) : lks o i = YtjlopclpofbgbaaDoor.lks t i := by
  unfold YtjlopclpofbgbaaDoor.lks
  refine sel_congr _ fun k _ => ?_
  unfold lkP
  rw [h.pg, h.thg, h.ts, h.ms, h.mi]
theorem Hs.fr (i : Int) : fr o i = YtjlopclpofbgbaaDoor.fr t i := by unfold YtjlopclpofbgbaaDoor.fr; rw [h.there, h.lks]
theorem Hs.isPage (i : Int) : isPage o i = YtjlopclpofbgbaaDoor.isPage t i := by unfold YtjlopclpofbgbaaDoor.isPage; rw [h.ofT, h.ts]
theorem Hs.pags : pags o = YtjlopclpofbgbaaDoor.pags t := by
  unfold YtjlopclpofbgbaaDoor.pags
  rw [h.ts]
  exact sel_congr _ fun i _ => by unfold pgP; rw [h.isPage, h.thg]
end
theorem cntP_hs {t o : Town} (h : Hs t o) {pl : List Int} {b : Int} : ∀ k, cntP o pl b k = cntP t pl b k
  | 0 => rfl
  | k + 1 => by simp only [cntP, cntP_hs h k, h.there]
theorem gv_mem {l : List Int} {i : Nat} (h : i < l.length) : gv l i ∈ l := by
  rw [gv_nat (List.getElem?_eq_getElem h)]; exact List.getElem_mem h
theorem cntP_none {t : Town} {pl : List Int} {b : Int} : ∀ k : Nat, (∀ i : Nat, i < k → gv pl i ≠ b) → cntP t pl b k = 0
  | 0, _ => rfl
  | k + 1, h => by
    rw [cntP_no fun hh => h k (by omega) hh.1, cntP_none k fun i hi => h i (by omega)]
theorem more_law {t o : Town} (hv : validT t) (ho : validT o) (h : Hs t o) (hpl : o.pl = t.pl) (hca : ∀ i : Nat, i < t.ts.length → gv o.ca i ≤ gv t.ca i) (hrl : t.rm.length ≤ o.rm.length) (hrm : ∀ b : Nat, b < t.rm.length → gv t.rm b ≤ gv o.rm b)
    {x : List Int × Int × Int} (hx : remT t = some x) : ∃ y, remT o = some y ∧ y.2.1 ≤ x.2.1 := by
  obtain ⟨x1, x2, x3, _⟩ := rem_bnd hv hx
  obtain ⟨x4, x5⟩ := (end_two hv x2).1 x3
  have hc : isCar o x.1 := ⟨by rw [h.ts]; exact x2.1, fun i hi => by
    obtain ⟨c1, c2, c3⟩ := x2.2 i hi
    exact ⟨c1, by omega, by rw [hpl, h.there]; exact c3⟩⟩
  have he : endP o x.1 := by
    refine (end_two ho hc).2 ⟨?_, ?_⟩
    · intro b hb
      rw [cntP_hs h]
      rcases Nat.lt_or_ge b t.rm.length with q | q
      · have := x4 b q
        have := hrm b q
        omega
      · rw [cntP_none _ fun i hi e => by have := (x2.2 i hi).2.1; omega]
        have := ho.2.2.1 _ (gv_mem hb)
        unfold within at this
        omega
    · intro p hp
      rw [h.pags] at hp
      obtain ⟨i, j, q⟩ := x5 p hp
      refine ⟨i, j, ?_⟩
      rw [h.ts, h.fr, h.fr, h.pg, h.pg]; exact q
  obtain ⟨y, hy⟩ := rem_some ho hc he
  refine ⟨y, hy, ?_⟩
  have h1 := (rem_least ho hy hc he).1
  have key : ∀ k : Nat, k ≤ t.ts.length → (cstN o x.1 k).1 ≤ (cstN t x.1 k).1 := fun k => by
    induction k with
    | zero => intro _; simp [cstN]
    | succ k ih =>
      intro hk
      have ih := ih (by omega)
      have := hca k (by omega)
      simp only [cstN, hpl]
      split
      · exact ih
      · simp only; omega
  have k1 : (cst o x.1).1 ≤ (cst t x.1).1 := key x.1.length (by rw [x2.1]; omega)
  rw [x1]
  unfold lexlt at h1
  omega
structure Ord (t o : Town) (s r : Int → Int) : Prop where
  hs : Hs t o
  ca : o.ca = t.ca
  n : o.rm.length = t.rm.length
  sr : ∀ b : Int, 0 ≤ b → b < t.rm.length → 0 ≤ s b ∧ s b < t.rm.length ∧ r (s b) = b
  rs : ∀ b : Int, 0 ≤ b → b < t.rm.length → 0 ≤ r b ∧ r b < t.rm.length ∧ s (r b) = b
  pll : o.pl.length = t.pl.length
  bd : ∀ i : Nat, i < t.ts.length → 0 ≤ gv t.pl i ∧ gv t.pl i < t.rm.length
  pl : ∀ i : Nat, i < t.ts.length → gv o.pl i = s (gv t.pl i)
  rm : ∀ b : Int, 0 ≤ b → b < t.rm.length → gv o.rm (s b) = gv t.rm b
theorem Ord.symm {t o : Town} {s r : Int → Int} (h : Ord t o s r) : Ord o t r s where
  hs := h.hs.symm
  ca := h.ca.symm
  n := h.n.symm
  sr := fun b h0 h1 => by rw [h.n] at h1 ⊢; exact h.rs b h0 h1
  rs := fun b h0 h1 => by rw [h.n] at h1 ⊢; exact h.sr b h0 h1
  pll := h.pll.symm
  bd := fun i hi => by
    rw [h.hs.ts] at hi
    have := h.bd i hi
    rw [h.pl i hi, h.n]
    have := h.sr _ this.1 this.2
    exact ⟨this.1, this.2.1⟩
  pl := fun i hi => by
    rw [h.hs.ts] at hi
    have := h.bd i hi
    rw [h.pl i hi, (h.sr _ this.1 this.2).2.2]
  rm := fun b h0 h1 => by
    rw [h.n] at h1
    have := h.rs b h0 h1
    rw [← h.rm _ this.1 this.2.1, this.2.2]
theorem Ord.inj {t o : Town} {s r : Int → Int} (h : Ord t o s r) {a b : Int} (a0 : 0 ≤ a) (a1 : a < t.rm.length) (b0 : 0 ≤ b) (b1 : b < t.rm.length) : s a = s b ↔ a = b := by
  constructor
  · intro e
    have h1 := (h.sr a a0 a1).2.2
    have h2 := (h.sr b b0 b1).2.2
    rw [← h1, ← h2, e]
  · rintro rfl; rfl
theorem gv_map {l : List Int} {s : Int → Int} {i : Nat} (h : i < l.length) : gv (l.map s) i = s (gv l i) := by
  have h1 := List.getElem?_eq_getElem h
  rw [gv_nat h1, gv_nat (by rw [List.getElem?_map, h1]; rfl)]
section
variable {t o : Town} {s r : Int → Int} (h : Ord t o s r) {l m : List Int}
include h
theorem Ord.cnt (hb : ∀ i : Nat, i < l.length → 0 ≤ gv l i ∧ gv l i < t.rm.length) (hm : ∀ i : Nat, i < l.length → gv m i = s (gv l i)) {b : Int} (b0 : 0 ≤ b) (b1 : b < t.rm.length) : ∀ k : Nat, k ≤ l.length → cntP o m (s b) k = cntP t l b k
  | 0, _ => rfl
  | k + 1, hk => by
    have ih := Ord.cnt hb hm b0 b1 k (by omega)
    have hbk := hb k (by omega)
    have e : (gv m k = s b ∧ there o k) ↔ (gv l k = b ∧ there t k) := by
      rw [hm k (by omega), h.inj hbk.1 hbk.2 b0 b1, h.hs.there]
    by_cases q : gv l k = b ∧ there t k
    · rw [cntP_yes q, cntP_yes (e.2 q), ih]
    · rw [cntP_no q, cntP_no fun hh => q (e.1 hh), ih]
theorem Ord.roomy (hl : m.length = l.length) (hb : ∀ i : Nat, i < l.length → 0 ≤ gv l i ∧ gv l i < t.rm.length) (hm : ∀ i : Nat, i < l.length → gv m i = s (gv l i)) (hr : roomy t l) : roomy o m := by
  intro c hc
  rw [h.n] at hc
  obtain ⟨q1, q2, q3⟩ := h.rs c (by omega) (by omega)
  have := h.cnt hb hm q1 q2 l.length (Nat.le_refl _)
  rw [q3] at this
  rw [hl, this]
  have h2 := hr (r c).toNat (by omega)
  have e : (((r c).toNat : Nat) : Int) = r c := by omega
  rw [e] at h2
  have h3 := h.rm _ q1 q2
  rw [q3] at h3
  rw [h3]; exact h2
theorem Ord.valid (hv : validT t) : validT o := by
  obtain ⟨h1, h2, h3, h4, h5, h6, h7, h8, h9⟩ := hv
  refine ⟨by rw [h.hs.ts, h.hs.ms]; exact h1, by rw [h.n]; exact h2, fun x hx => ?_, by rw [h.pll, h.hs.ts, h4], fun x hx => ?_, by rw [h.ca, h.hs.ts, h6], by rw [h.ca]; exact h7, by rw [h.hs.mi]; exact h8, ?_⟩
  · obtain ⟨i, hi, rfl⟩ := List.getElem_of_mem hx
    rw [h.n] at hi
    obtain ⟨q1, q2, q3⟩ := h.rs i (by omega) (by omega)
    have e := h.rm _ q1 q2
    rw [q3, gv_nat (List.getElem?_eq_getElem (by rw [h.n]; exact hi))] at e
    rw [e]
    have e2 : (((r i).toNat : Nat) : Int) = r i := by omega
    rw [← e2]
    exact h3 _ (gv_mem (by omega))
  · obtain ⟨i, hi, rfl⟩ := List.getElem_of_mem hx
    have hi2 : i < t.ts.length := by rw [← h4, ← h.pll]; exact hi
    have e := h.pl i hi2
    rw [gv_nat (List.getElem?_eq_getElem hi)] at e
    have b := h.bd i hi2
    have := h.sr _ b.1 b.2
    unfold within
    rw [e, h.n]
    omega
  · exact h.roomy h.pll (fun i hi => h.bd i (by omega)) (fun i hi => h.pl i (by omega)) h9
theorem Ord.two (hl : l.length = t.ts.length) (hb : ∀ i : Nat, i < l.length → 0 ≤ gv l i ∧ gv l i < t.rm.length) (hm : ∀ i : Nat, i < l.length → gv m i = s (gv l i)) {p : Int} (ht : twoB t l p) : twoB o m p := by
  obtain ⟨i, j, i1, j1, q1, q2, q3, q4, q5⟩ := ht
  refine ⟨i, j, by rw [h.hs.ts]; exact i1, by rw [h.hs.ts]; exact j1, by rw [h.hs.fr]; exact q1, by rw [h.hs.fr]; exact q2, by rw [h.hs.pg]; exact q3, by rw [h.hs.pg]; exact q4, ?_⟩
  have bi := hb i (by omega)
  have bj := hb j (by omega)
  rw [hm i (by omega), hm j (by omega)]
  exact fun e => q5 ((h.inj bi.1 bi.2 bj.1 bj.2).1 e)
theorem Ord.safe1 (hv : validT t) (hs : safeP t) : safeP o := by
  refine (safe_two (h.valid hv)).2 fun p hp => ?_
  rw [h.hs.pags] at hp
  exact h.two hv.lp (fun i hi => h.bd i (by rw [← hv.lp]; exact hi)) (fun i hi => h.pl i (by rw [← hv.lp]; exact hi)) ((safe_two hv).1 hs p hp)
theorem Ord.car (hv : validT t) (hc : isCar t l) : isCar o (l.map s) := by
  refine ⟨by rw [List.length_map, h.hs.ts]; exact hc.1, fun i hi => ?_⟩
  rw [List.length_map] at hi
  obtain ⟨c1, c2, c3⟩ := hc.2 i hi
  have hi2 : i < t.ts.length := by rw [← hc.1]; exact hi
  have := h.sr _ c1 c2
  unfold carP
  rw [gv_map hi, h.n, h.pl i hi2, h.hs.there]
  refine ⟨this.1, this.2.1, ?_⟩
  rcases c3 with c3 | c3
  · rw [c3]; exact .inl rfl
  · exact .inr c3
theorem Ord.end (hv : validT t) (hc : isCar t l) (he : endP t l) : endP o (l.map s) := by
  obtain ⟨e1, e2⟩ := (end_two hv hc).1 he
  have hb : ∀ i : Nat, i < l.length → 0 ≤ gv l i ∧ gv l i < t.rm.length := fun i hi => by
    have := hc.2 i hi
    exact ⟨this.1, this.2.1⟩
  refine (end_two (h.valid hv) (h.car hv hc)).2 ⟨h.roomy (List.length_map _) hb (fun i hi => gv_map hi) e1, fun p hp => ?_⟩
  rw [h.hs.pags] at hp
  exact h.two hc.1 hb (fun i hi => gv_map hi) (e2 p hp)
theorem Ord.cst (hc : isCar t l) : cst o (l.map s) = cst t l := by
  have key : ∀ k : Nat, k ≤ l.length → cstN o (l.map s) k = cstN t l k := fun k => by
    induction k with
    | zero => intro _; rfl
    | succ k ih =>
      intro hk
      obtain ⟨c1, c2, c3⟩ := hc.2 k (by omega)
      have hk2 : k < t.ts.length := by rw [← hc.1]; omega
      have b := h.bd k hk2
      have e := h.inj c1 c2 b.1 b.2
      simp only [cstN]
      rw [ih (by omega), gv_map (by omega), h.pl k hk2, h.ca]
      by_cases q : gv l k = gv t.pl k
      · rw [if_pos q, if_pos (e.2 q)]
      · rw [if_neg q, if_neg fun hh => q (e.1 hh)]
  unfold YtjlopclpofbgbaaDoor.cst
  rw [List.length_map]
  exact key _ (Nat.le_refl _)
theorem Ord.rem1 (hv : validT t) {x : List Int × Int × Int} (hx : remT t = some x) : ∃ y, remT o = some y ∧ ¬ lexlt x.2 y.2 := by
  obtain ⟨x1, x2, x3, _⟩ := rem_bnd hv hx
  have hc := h.car hv x2
  have he := h.end hv x2 x3
  obtain ⟨y, hy⟩ := rem_some (h.valid hv) hc he
  have := (rem_least (h.valid hv) hy hc he).1
  rw [h.cst x2, ← x1] at this
  exact ⟨y, hy, this⟩
end
theorem Ord.rem {t o : Town} {s r : Int → Int} (h : Ord t o s r) (hv : validT t) : pS (remT o) = pS (remT t) ∧ eS (remT o) = eS (remT t) := by
  have hvo := h.valid hv
  rcases e1 : remT t with _ | x
  · rcases e2 : remT o with _ | y
    · exact ⟨rfl, rfl⟩
    · obtain ⟨z, hz, _⟩ := h.symm.rem1 hvo e2
      rw [e1] at hz; cases hz
  · obtain ⟨y, hy, h1⟩ := h.rem1 hv e1
    obtain ⟨z, hz, h2⟩ := h.symm.rem1 hvo hy
    rw [e1] at hz; cases hz
    rw [hy]
    refine ⟨?_, rfl⟩
    show y.2.1 = x.2.1
    unfold lexlt at h1 h2
    omega
theorem Ord.safe {t o : Town} {s r : Int → Int} (h : Ord t o s r) (hv : validT t) : safeP o ↔ safeP t := ⟨h.symm.safe1 (h.valid hv), h.safe1 hv⟩
theorem cnt_perm {q q' : Nat → Prop} {n f : Nat} (hn : n ≤ 3) (h : ∀ b : Nat, b < n → (q' ((b + f) % n) ↔ q b)) : (sel q' n).length = (sel q n).length := by
  have hn : n = 0 ∨ n = 1 ∨ n = 2 ∨ n = 3 := by omega
  rcases hn with rfl | rfl | rfl | rfl
  · rfl
  · have h0 := h 0 (by omega)
    rw [show (0 + f) % 1 = 0 from by omega] at h0
    by_cases a : q 0 <;> simp [sel, a, h0]
  · have h0 := h 0 (by omega)
    have h1 := h 1 (by omega)
    have hf : f % 2 = 0 ∨ f % 2 = 1 := by omega
    rcases hf with hf | hf
    · rw [show (0 + f) % 2 = 0 from by omega] at h0
      rw [show (1 + f) % 2 = 1 from by omega] at h1
      by_cases a : q 0 <;> by_cases b : q 1 <;> simp [sel, a, b, h0, h1]
    · rw [show (0 + f) % 2 = 1 from by omega] at h0
      rw [show (1 + f) % 2 = 0 from by omega] at h1
      by_cases a : q 0 <;> by_cases b : q 1 <;> simp [sel, a, b, h0, h1]
  · have h0 := h 0 (by omega)
    have h1 := h 1 (by omega)
    have h2 := h 2 (by omega)
    have hf : f % 3 = 0 ∨ f % 3 = 1 ∨ f % 3 = 2 := by omega
    rcases hf with hf | hf | hf
    · rw [show (0 + f) % 3 = 0 from by omega] at h0
      rw [show (1 + f) % 3 = 1 from by omega] at h1
      rw [show (2 + f) % 3 = 2 from by omega] at h2
      by_cases a : q 0 <;> by_cases b : q 1 <;> by_cases c : q 2 <;> simp [sel, a, b, c, h0, h1, h2]
    · rw [show (0 + f) % 3 = 1 from by omega] at h0
      rw [show (1 + f) % 3 = 2 from by omega] at h1
      rw [show (2 + f) % 3 = 0 from by omega] at h2
      by_cases a : q 0 <;> by_cases b : q 1 <;> by_cases c : q 2 <;> simp [sel, a, b, c, h0, h1, h2]
    · rw [show (0 + f) % 3 = 2 from by omega] at h0
      rw [show (1 + f) % 3 = 0 from by omega] at h1
      rw [show (2 + f) % 3 = 1 from by omega] at h2
      by_cases a : q 0 <;> by_cases b : q 1 <;> by_cases c : q 2 <;> simp [sel, a, b, c, h0, h1, h2]
theorem Ord.brs {t o : Town} {f : Nat} {r : Int → Int} (h : Ord t o (fun b => (b + f) % t.rm.length) r) (hv : validT t) (p : Int) : brs o p = brs t p := by
  unfold YtjlopclpofbgbaaDoor.brs
  rw [h.hs.thg, h.n]
  have hr := rm_pos hv
  rw [cnt_perm (q := bearL t (thg t p)) (q' := bearL o (thg t p)) (f := f) (by omega) fun b hb => ?_]
  unfold bearL
  refine exists_congr fun x => and_congr_right fun hx => ?_
  obtain ⟨x1, x2, _, _⟩ := thg_mem.1 hx
  obtain ⟨i, rfl⟩ : ∃ i : Nat, x = i := ⟨x.toNat, by omega⟩
  have hi : i < t.ts.length := by omega
  have bb := h.bd i hi
  have e := h.inj bb.1 bb.2 (b := (b : Int)) (by omega) (by omega)
  rw [h.hs.fr, h.pl i hi, ← e]
  refine and_congr_left fun _ => ?_
  simp only [Int.natCast_emod, Int.natCast_add]
end Go.Proofs.YtjlopclpofbgbaaDoor

