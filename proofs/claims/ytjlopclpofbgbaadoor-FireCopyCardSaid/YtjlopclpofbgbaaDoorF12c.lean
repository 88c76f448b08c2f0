/- Contracts of functions of the given program, without a condition beyond those that each theorem states; they lead to the given statement. -/
import Derived.Test.YtjlopclpofbgbaaDoorF12b
set_option linter.unusedSimpArgs false
set_option linter.unusedVariables false
set_option linter.unusedSectionVars false
set_option maxRecDepth 100000
namespace Go.Proofs.YtjlopclpofbgbaaDoor
open Go Go.Fl
open Classical
abbrev mkT (t : Town) (m : Mark) : Town := { t with ms := t.ms ++ [m] }
theorem mk_pgN {t : Town} {m : Mark} : ∀ (n : Nat) (i : Int), pgN (mkT t m) n i = pgN t n i
  | 0, i => rfl
  | n + 1, i => by
    have e : ofT (mkT t m) i = ofT t i := rfl
    simp only [pgN, e, mk_pgN n]
theorem mk_pg {t : Town} {m : Mark} (i : Int) : pg (mkT t m) i = pg t i := mk_pgN _ _
theorem mk_thg {t : Town} {m : Mark} (p : Int) : thg (mkT t m) p = thg t p := by
  unfold thg
  exact sel_congr _ fun i _ => by rw [thP, thP, mk_pg]; exact Iff.rfl
theorem mk_pags {t : Town} {m : Mark} : pags (mkT t m) = pags t := by
  unfold pags
  exact sel_congr _ fun i _ => by unfold pgP; rw [mk_thg]; exact Iff.rfl
theorem mk_los {t : Town} {m : Mark} (b : Int) : los (mkT t m) b = los t b := by
  unfold los
  rw [mk_pags]
  unfold fil
  refine List.filter_congr fun p _ => ?_
  have e : losP (mkT t m) b p = losP t b p := by unfold losP; rw [mk_thg]; rfl
  rw [e]
theorem has_mark {t : Town} (hk : okThings t.ts) {m : Mark} {c : Int} : ∀ (n : Nat) (i at_ : Int), 0 ≤ i → i < t.ts.length → pg t i ≠ pg t m.thing → (hasOf t.ts (t.ms ++ [m]) c n i at_ ↔ hasOf t.ts t.ms c n i at_)
  | 0, i, at_, _, _, _ => by simp [hasOf]
  | n + 1, i, at_, h0, h1, hp => by
    simp only [hasOf]
    refine exists_congr fun u => and_congr_right fun hu => and_congr_right fun _ => ?_
    have hof := ofT_of hu
    refine or_congr ?_ (and_congr_right fun hne => ?_)
    · constructor
      · rintro ⟨k, k1, k2, k3, k4⟩
        rcases List.mem_append.1 k1 with q | q
        · exact ⟨k, q, k2, k3, k4⟩
        · rw [List.mem_singleton] at q; subst q
          exact absurd (by rw [k3]) hp
      · rintro ⟨k, k1, k2⟩; exact ⟨k, List.mem_append_left _ k1, k2⟩
    · have hl := of_lt hk h0 h1
      rw [hof] at hl
      have hpu := pg_up hk h0 h1 (by rw [hof]; exact hne)
      rw [hof] at hpu
      exact has_mark hk n _ _ (by omega) (by omega) (by rw [← hpu]; exact hp)
theorem mk_fr {t : Town} (hv : validT t) {m : Mark} {i : Int} (h0 : 0 ≤ i) (h1 : i < t.ts.length) (hp : pg t i ≠ pg t m.thing) : fr (mkT t m) i ↔ fr t i := by
  have e : lks (mkT t m) i = lks t i := by
    unfold lks
    refine sel_congr _ fun c _ => ?_
    unfold lkP
    rw [mk_pg, mk_thg]
    refine and_congr (exists_congr fun x => and_congr_right fun hx => ?_) (not_congr ?_)
    · obtain ⟨x1, x2, x3, x4⟩ := thg_mem.1 hx
      exact has_mark hv.things _ _ _ x1 x2 (by rw [x4]; exact hp)
    · exact has_mark hv.things _ _ _ h0 h1 hp
  unfold fr
  rw [e]; exact Iff.rfl
theorem mk_has {t : Town} {m : Mark} (ho : validT (mkT t m)) (ha : m.at_ ≤ t.mi) {i : Int} (hp : pg t i = pg t m.thing) (hf : fr (mkT t m) i) : hasAt t.ts (t.ms ++ [m]) m.change i t.mi := by
  obtain ⟨k1, k2, k3⟩ := ho.1.2.2.2 m (by show m ∈ t.ms ++ [m]; simp)
  have k2 : within m.thing 0 (t.ts.length - 1) := k2
  have k3 : within m.at_ (upAt t.ts m.thing) 99 := k3
  unfold within at k1 k2 k3
  obtain ⟨c, hc⟩ : ∃ c : Nat, m.change = c := ⟨m.change.toNat, by omega⟩
  have h1 : ¬ lkP (mkT t m) i c := by
    have := sel_nil.1 hf.2
    exact this c (by omega)
  have h2 : hasAt t.ts (t.ms ++ [m]) m.change m.thing t.mi := by
    unfold hasAt
    obtain ⟨u, hu⟩ := get_of (l := t.ts) (j := m.thing.toNat) (by omega)
    have e : upAt t.ts m.thing = u.at_ := by simp only [upAt, hu]
    simp only [hasOf]
    exact ⟨u, hu, by omega, .inl ⟨m, by simp, rfl, rfl, ha⟩⟩
  have h3 : there t m.thing := by unfold there atT; omega
  apply Classical.byContradiction
  intro h4
  apply h1
  refine ⟨⟨m.thing, ?_, ?_⟩, ?_⟩
  · rw [mk_pg, mk_thg, hp]
    exact thg_mem.2 ⟨by omega, by omega, h3, rfl⟩
  · rw [← hc]; exact h2
  · rw [← hc]; exact h4
abbrev newT (t : Town) (th a : Int) : Town := { t with ts := t.ts ++ [⟨th, t.mi, 0, 0⟩], pl := t.pl ++ [a], ca := t.ca ++ [0] }
section
variable {t : Town} {th a : Int}
theorem nw_get {i : Int} (h0 : 0 ≤ i) (h : i < t.ts.length) : (newT t th a).ts[i.toNat]? = t.ts[i.toNat]? := List.getElem?_append_left (by omega)
theorem nw_last : (newT t th a).ts[t.ts.length]? = some ⟨th, t.mi, 0, 0⟩ := by
  show (t.ts ++ [_])[t.ts.length]? = _
  rw [List.getElem?_append_right (Nat.le_refl _), Nat.sub_self]; rfl
theorem nw_len : (newT t th a).ts.length = t.ts.length + 1 := by show (t.ts ++ [_]).length = _; simp
theorem nw_ofT {i : Int} (h0 : 0 ≤ i) (h : i < t.ts.length) : ofT (newT t th a) i = ofT t i := by unfold ofT; rw [nw_get h0 h]
theorem nw_there {i : Int} (h0 : 0 ≤ i) (h : i < t.ts.length) : there (newT t th a) i ↔ there t i := by unfold there atT upAt; rw [nw_get h0 h]
theorem nw_there_last : there (newT t th a) (t.ts.length : Nat) := by
  unfold there atT upAt
  rw [Int.toNat_natCast, nw_last (th := th) (a := a)]
  exact Int.le_refl _
theorem nw_pgN (hk : okThings t.ts) : ∀ (n : Nat) (i : Int), 0 ≤ i → i < t.ts.length → pgN (newT t th a) n i = pgN t n i
  | 0, i, _, _ => rfl
  | n + 1, i, h0, h1 => by
    have hl := of_lt hk h0 h1
    simp only [pgN]
    rw [nw_ofT h0 h1]
    split
    · rfl
    · rename_i h
      exact nw_pgN hk n _ (by omega) (by omega)
theorem nw_pg (hk : okThings t.ts) {i : Int} (h0 : 0 ≤ i) (h1 : i < t.ts.length) : pg (newT t th a) i = pg t i := nw_pgN hk _ _ h0 h1
theorem nw_pg_last (hk : okThings t.ts) (hk2 : okThings (newT t th a).ts) (ht : 0 ≤ th ∧ th < t.ts.length) : pg (newT t th a) (t.ts.length : Nat) = pg t th := by
  have e : ofT (newT t th a) (t.ts.length : Nat) = th := ofT_of (t := newT t th a) (by rw [Int.toNat_natCast]; exact nw_last (t := t) (th := th) (a := a))
  have hl := nw_len (t := t) (th := th) (a := a)
  rw [pg_up hk2 (by omega) (by rw [hl]; omega) (by rw [e]; omega), e, nw_pg hk ht.1 ht.2]
theorem nw_hasOf (hk : okThings t.ts) {c : Int} : ∀ (n : Nat) (i at_ : Int), 0 ≤ i → i < t.ts.length → (hasOf (newT t th a).ts t.ms c n i at_ ↔ hasOf t.ts t.ms c n i at_)
  | 0, i, at_, _, _ => by simp [hasOf]
  | n + 1, i, at_, h0, h1 => by
    simp only [hasOf]
    rw [nw_get (th := th) (a := a) h0 h1]
    refine exists_congr fun u => and_congr_right fun hu => and_congr_right fun _ => or_congr Iff.rfl (and_congr_right fun hne => ?_)
    have hof := ofT_of hu
    have hl := of_lt hk h0 h1
    rw [hof] at hl
    exact nw_hasOf hk n _ _ (by omega) (by omega)
theorem nw_has (hk : okThings t.ts) {c i : Int} (h0 : 0 ≤ i) (h1 : i < t.ts.length) : hasAt (newT t th a).ts (newT t th a).ms c i (newT t th a).mi ↔ hasAt t.ts t.ms c i t.mi := nw_hasOf hk _ _ _ h0 h1
theorem nw_has_last (hv : validT t) (ht : 0 ≤ th ∧ th < t.ts.length) {c : Int} : hasAt (newT t th a).ts (newT t th a).ms c (t.ts.length : Nat) (newT t th a).mi ↔ hasAt t.ts t.ms c th t.mi := by
  have h8 := hv.len
  have hmi := hv.2.2.2.2.2.2.2.1
  unfold within at hmi
  have hk := hv.things
  have hm : okMarks t.ts t.ms := hv.1.2.2.2
  unfold hasAt
  simp only [hasOf]
  rw [Int.toNat_natCast, nw_last (th := th) (a := a)]
  obtain ⟨k, rfl⟩ : ∃ k : Nat, th = k := ⟨th.toNat, by omega⟩
  have e1 := hasOf_iff t.ts t.ms hk hm h8 c t.ts.length k (by omega) (by omega) t.mi (by omega)
  have e2 := hasOf_iff t.ts t.ms hk hm h8 c (k + 1) k (by omega) (by omega) t.mi (by omega)
  rw [Int.toNat_natCast]
  refine Iff.trans ?_ (e1.trans e2.symm)
  rw [← nw_hasOf (th := (k : Int)) (a := a) hk t.ts.length k t.mi (by omega) (by omega)]
  constructor
  · rintro ⟨u, hu, h1, h2 | ⟨_, h2⟩⟩
    · cases hu
      obtain ⟨m, m1, m2, m3, m4⟩ := h2
      have := (hm m m1).2.1
      unfold within at this
      omega
    · cases hu; exact h2
  · intro h
    exact ⟨_, rfl, Int.le_refl _, .inr ⟨by simp only; omega, h⟩⟩
end
theorem sel_mono {q q' : Nat → Prop} : ∀ n, (∀ i, i < n → q i → q' i) → (sel q n).length ≤ (sel q' n).length
  | 0, _ => Nat.le_refl _
  | n + 1, h => by
    have ih := sel_mono n fun i hi => h i (by omega)
    by_cases a1 : q n
    · rw [sel_yes a1, sel_yes (h n (by omega) a1)]; simp; omega
    · rw [sel_no a1]
      by_cases a2 : q' n
      · rw [sel_yes a2]; simp; omega
      · rw [sel_no a2]; exact ih
structure NewOk (t : Town) (th a : Int) : Prop where
  v : validT t
  o : validT (newT t th a)
  h : 0 ≤ th ∧ th < t.ts.length
  f : fr t th
section
variable {t : Town} {th a : Int} (H : NewOk t th a)
include H
theorem NewOk.ko : okThings (newT t th a).ts := H.o.things
theorem NewOk.pl_last : pg (newT t th a) (t.ts.length : Nat) = pg t th := nw_pg_last H.v.things H.ko H.h
theorem NewOk.mem {p x : Int} : x ∈ thg (newT t th a) p ↔ x ∈ thg t p ∨ (x = (t.ts.length : Nat) ∧ p = pg t th) := by
  rw [thg_mem, thg_mem, nw_len]
  have hk := H.v.things
  constructor
  · rintro ⟨h1, h2, h3, h4⟩
    rcases Int.lt_or_le x t.ts.length with q | q
    · rw [nw_there h1 q] at h3
      rw [nw_pg hk h1 q] at h4
      exact .inl ⟨h1, q, h3, h4⟩
    · have : x = (t.ts.length : Nat) := by omega
      subst this
      rw [H.pl_last] at h4
      exact .inr ⟨rfl, h4.symm⟩
  · rintro (⟨h1, h2, h3, h4⟩ | ⟨rfl, rfl⟩)
    · exact ⟨h1, by omega, (nw_there h1 h2).2 h3, by rw [nw_pg hk h1 h2]; exact h4⟩
    · exact ⟨by omega, by omega, nw_there_last, H.pl_last⟩
theorem NewOk.th_mem : th ∈ thg t (pg t th) := thg_mem.2 ⟨H.h.1, H.h.2, H.f.1, rfl⟩
theorem NewOk.some {c p : Int} : (∃ x, x ∈ thg (newT t th a) p ∧ hasAt (newT t th a).ts (newT t th a).ms c x (newT t th a).mi) ↔ ∃ x, x ∈ thg t p ∧ hasAt t.ts t.ms c x t.mi := by
  constructor
  · rintro ⟨x, h1, h2⟩
    rcases H.mem.1 h1 with q | ⟨rfl, rfl⟩
    · obtain ⟨x1, x2, _⟩ := thg_mem.1 q
      exact ⟨x, q, (nw_has H.v.things x1 x2).1 h2⟩
    · exact ⟨th, H.th_mem, (nw_has_last H.v H.h).1 h2⟩
  · rintro ⟨x, h1, h2⟩
    obtain ⟨x1, x2, _⟩ := thg_mem.1 h1
    exact ⟨x, H.mem.2 (.inl h1), (nw_has H.v.things x1 x2).2 h2⟩
theorem NewOk.lks {i : Int} (h0 : 0 ≤ i) (h1 : i < t.ts.length) : lks (newT t th a) i = YtjlopclpofbgbaaDoor.lks t i := by
  unfold YtjlopclpofbgbaaDoor.lks
  refine sel_congr _ fun c _ => ?_
  unfold lkP
  rw [nw_pg H.v.things h0 h1, H.some, nw_has H.v.things h0 h1]
theorem NewOk.lks_last : YtjlopclpofbgbaaDoor.lks (newT t th a) (t.ts.length : Nat) = YtjlopclpofbgbaaDoor.lks t th := by
  unfold YtjlopclpofbgbaaDoor.lks
  refine sel_congr _ fun c _ => ?_
  unfold lkP
  rw [H.pl_last, H.some, nw_has_last H.v H.h]
theorem NewOk.fr {i : Int} (h0 : 0 ≤ i) (h1 : i < t.ts.length) : fr (newT t th a) i ↔ YtjlopclpofbgbaaDoor.fr t i := by
  unfold YtjlopclpofbgbaaDoor.fr
  rw [H.lks h0 h1, nw_there h0 h1]
theorem NewOk.fr_last : YtjlopclpofbgbaaDoor.fr (newT t th a) (t.ts.length : Nat) := ⟨nw_there_last, by rw [H.lks_last]; exact H.f.2⟩
theorem NewOk.pags {p : Int} : p ∈ pags (newT t th a) ↔ p ∈ YtjlopclpofbgbaaDoor.pags t := by
  rw [pgs_mem, pgs_mem]
  have hl := nw_len (t := t) (th := th) (a := a)
  constructor
  · rintro ⟨⟨h1, h2⟩, h3⟩
    unfold within at h1
    rw [hl] at h1
    rcases Int.lt_or_le p t.ts.length with q | q
    · rw [nw_ofT (by omega) q] at h2
      refine ⟨⟨by unfold within; omega, h2⟩, ?_⟩
      obtain ⟨x, hx⟩ := List.exists_mem_of_ne_nil _ h3
      rcases H.mem.1 hx with r | ⟨_, rfl⟩
      · exact List.ne_nil_of_mem r
      · exact List.ne_nil_of_mem H.th_mem
    · have : p = (t.ts.length : Nat) := by omega
      subst this
      rw [show ofT (newT t th a) (t.ts.length : Nat) = th from ofT_of (t := newT t th a) (by rw [Int.toNat_natCast]; exact nw_last (t := t) (th := th) (a := a))] at h2
      have := H.h.1
      omega
  · rintro ⟨⟨h1, h2⟩, h3⟩
    unfold within at h1
    refine ⟨⟨by unfold within; rw [hl]; omega, by rw [nw_ofT (by omega) (by omega)]; exact h2⟩, ?_⟩
    obtain ⟨x, hx⟩ := List.exists_mem_of_ne_nil _ h3
    exact List.ne_nil_of_mem (H.mem.2 (.inl hx))
theorem NewOk.stays {b i : Int} (h0 : 0 ≤ i) (h1 : i < t.ts.length) : stays (newT t th a) b i ↔ YtjlopclpofbgbaaDoor.stays t b i := by
  unfold YtjlopclpofbgbaaDoor.stays
  rw [nw_there h0 h1]
  obtain ⟨k, rfl⟩ : ∃ k : Nat, i = k := ⟨i.toNat, by omega⟩
  have e : gv (newT t th a).pl (k : Int) = gv t.pl k := gv_app (by have := H.v.lp; omega)
  rw [e]
theorem NewOk.left {b p x : Int} (h : x ∈ lft t (thg t p) b) : x ∈ lft (newT t th a) (thg (newT t th a) p) b := by
  obtain ⟨h1, h2⟩ := fil_mem.1 h
  obtain ⟨x1, x2, _⟩ := thg_mem.1 h1
  exact fil_mem.2 ⟨H.mem.2 (.inl h1), (H.stays x1 x2).2 h2⟩
theorem NewOk.los {b p : Int} (h : p ∈ los (newT t th a) b) : p ∈ YtjlopclpofbgbaaDoor.los t b := by
  obtain ⟨h1, h2⟩ := fil_mem.1 h
  refine fil_mem.2 ⟨H.pags.1 h1, ?_⟩
  unfold losP at h2 ⊢
  rcases e : lft t (thg t p) b with _ | ⟨x, r⟩
  · rfl
  · have := H.left (b := b) (p := p) (x := x) (by rw [e]; simp)
    rw [h2] at this; simp at this
theorem NewOk.sta {b p : Int} (h : p ∈ sta (newT t th a) b) : p ∈ YtjlopclpofbgbaaDoor.sta t b ∨ p ∈ YtjlopclpofbgbaaDoor.los t b := by
  obtain ⟨h1, h2, h3⟩ := fil_mem.1 h
  have hp := H.pags.1 h1
  by_cases q : lft t (thg t p) b = []
  · exact .inr (fil_mem.2 ⟨hp, q⟩)
  · refine .inl (fil_mem.2 ⟨hp, q, ?_⟩)
    rintro ⟨x, x1, x2⟩
    obtain ⟨y1, y2, _⟩ := thg_mem.1 (fil_mem.1 x1).1
    exact h3 ⟨x, H.left x1, (H.fr y1 y2).2 x2⟩
theorem NewOk.at {b : Int} (h : pg t th ∈ YtjlopclpofbgbaaDoor.los (newT t th a) b ∨ pg t th ∈ YtjlopclpofbgbaaDoor.sta (newT t th a) b) : a = b := by
  apply Classical.byContradiction
  intro hne
  have e : gv (newT t th a).pl (t.ts.length : Nat) = a := by
    have := gv_end (l := t.pl) (r := []) (x := a)
    rw [H.v.lp] at this
    exact this
  have hm : ((t.ts.length : Nat) : Int) ∈ lft (newT t th a) (thg (newT t th a) (pg t th)) b := fil_mem.2 ⟨H.mem.2 (.inr ⟨rfl, rfl⟩), nw_there_last, by rw [e]; exact hne⟩
  rcases h with h | h
  · have := (fil_mem.1 h).2
    unfold losP at this
    rw [this] at hm; simp at hm
  · exact (fil_mem.1 h).2.2 ⟨_, hm, H.fr_last⟩
theorem NewOk.brs {p : Int} : brs t p ≤ YtjlopclpofbgbaaDoor.brs (newT t th a) p := by
  unfold YtjlopclpofbgbaaDoor.brs
  have : (sel (bearL t (thg t p)) t.rm.length).length ≤ (sel (bearL (newT t th a) (thg (newT t th a) p)) (newT t th a).rm.length).length := by
    refine sel_mono _ fun c _ => ?_
    rintro ⟨x, x1, x2, x3⟩
    obtain ⟨y1, y2, _⟩ := thg_mem.1 x1
    refine ⟨x, H.mem.2 (.inl x1), ?_, (H.fr y1 y2).2 x3⟩
    obtain ⟨k, rfl⟩ : ∃ k : Nat, x = k := ⟨x.toNat, by omega⟩
    have e : gv (newT t th a).pl (k : Int) = gv t.pl k := gv_app (by have := H.v.lp; omega)
    rw [e]; exact x2
  omega
theorem NewOk.pags_len : (YtjlopclpofbgbaaDoor.pags (newT t th a)).length ≤ t.ts.length := by
  have e : YtjlopclpofbgbaaDoor.pags (newT t th a) = sel (pgP (newT t th a)) t.ts.length := by
    unfold YtjlopclpofbgbaaDoor.pags
    rw [nw_len]
    refine sel_no ?_
    rintro ⟨h, _⟩
    have h2 := h.2
    rw [show ofT (newT t th a) (t.ts.length : Nat) = th from ofT_of (t := newT t th a) (by rw [Int.toNat_natCast]; exact nw_last (t := t) (th := th) (a := a))] at h2
    have := H.h.1
    omega
  rw [e]; exact sel_len _ _
end
end Go.Proofs.YtjlopclpofbgbaaDoor

