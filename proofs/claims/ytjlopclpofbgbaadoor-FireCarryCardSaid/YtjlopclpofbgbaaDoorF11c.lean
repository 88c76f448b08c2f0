/- Contracts of functions of the given program, without a condition beyond those that each theorem states; they lead to the given statement. -/
import Derived.Test.YtjlopclpofbgbaaDoorF10u
import Derived.Test.YtjlopclpofbgbaaDoorF10z
set_option linter.unusedSimpArgs false
set_option linter.unusedVariables false
set_option maxRecDepth 100000
namespace Go.Proofs.YtjlopclpofbgbaaDoor
open Go Go.Fl
open Classical
def spr (t : Town) (c : List Int) : Prop := ∀ p, p ∈ pags t → ∃ i j : Nat, i < t.ts.length ∧ j < t.ts.length ∧ fr t i ∧ fr t j ∧ pg t i = p ∧ pg t j = p ∧ gv c i ≠ gv c j
theorem thg_pl {t : Town} {c : List Int} {p : Int} : thg { t with pl := c } p = thg t p := by
  unfold thg
  refine sel_congr _ fun i _ => ?_
  unfold thP
  rw [pg_pl]; exact Iff.rfl
theorem lks_pl {t : Town} {c : List Int} {i : Int} : lks { t with pl := c } i = lks t i := by
  unfold lks
  refine sel_congr _ fun k _ => ?_
  unfold lkP
  rw [pg_pl, thg_pl]
theorem fr_pl {t : Town} {c : List Int} {i : Int} : fr { t with pl := c } i = fr t i := by
  unfold fr
  rw [lks_pl]; rfl
theorem pags_pl {t : Town} {c : List Int} : pags { t with pl := c } = pags t := by
  unfold pags
  refine sel_congr _ fun k _ => ?_
  unfold pgP
  rw [thg_pl]; exact Iff.rfl
theorem fil_nil {q : Int → Prop} {l : List Int} : fil q l = [] ↔ ∀ x, x ∈ l → ¬ q x := by
  constructor
  · intro h x hx hq
    have : x ∈ fil q l := fil_mem.2 ⟨hx, hq⟩
    rw [h] at this; simp at this
  · intro h
    rcases e : fil q l with _ | ⟨x, r⟩
    · rfl
    · have := fil_mem.1 (show x ∈ fil q l by rw [e]; simp)
      exact absurd this.2 (h x this.1)
theorem fire_safe {t : Town} {b : Int} : (los t b = [] ∧ sta t b = []) ↔ ∀ p, p ∈ pags t → ∃ x, x ∈ thg t p ∧ fr t x ∧ gv t.pl x ≠ b := by
  unfold los sta
  rw [fil_nil, fil_nil]
  unfold losP staP
  constructor
  · rintro ⟨h1, h2⟩ p hp
    have h3 := h1 p hp
    have h4 := h2 p hp
    obtain ⟨x, hx, hf⟩ := Classical.byContradiction fun h => h4 ⟨h3, h⟩
    obtain ⟨x1, x2⟩ := fil_mem.1 hx
    exact ⟨x, x1, hf, x2.2⟩
  · intro h
    have key : ∀ p, p ∈ pags t → ∃ x, x ∈ lft t (thg t p) b ∧ fr t x := fun p hp => by
      obtain ⟨x, x1, x2, x3⟩ := h p hp
      exact ⟨x, fil_mem.2 ⟨x1, x2.1, x3⟩, x2⟩
    refine ⟨fun p hp e => ?_, fun p hp e => e.2 (key p hp)⟩
    obtain ⟨x, x1, _⟩ := key p hp
    rw [e] at x1; simp at x1
theorem safe_spr {t : Town} {c : List Int} (hr : 0 < t.rm.length) (hc : ∀ i : Nat, i < t.ts.length → 0 ≤ gv c i ∧ gv c i < t.rm.length) : safeP { t with pl := c } ↔ spr t c := by
  have key : safeP { t with pl := c } ↔ ∀ b : Nat, b < t.rm.length → ∀ p, p ∈ pags t → ∃ x, x ∈ thg t p ∧ fr t x ∧ gv c x ≠ b := by
    unfold safeP
    refine forall_congr' fun b => imp_congr_right fun _ => ?_
    rw [fire_safe, pags_pl]
    simp only [thg_pl, fr_pl]
  rw [key]
  constructor
  · intro h p hp
    obtain ⟨x, x1, x2, x3⟩ := h 0 hr p hp
    obtain ⟨y1, y2, y3, y4⟩ := thg_mem.1 x1
    obtain ⟨i, rfl⟩ : ∃ i : Nat, x = i := ⟨x.toNat, by omega⟩
    have hb := hc i (by omega)
    obtain ⟨b, hbe⟩ : ∃ b : Nat, gv c i = b := ⟨(gv c i).toNat, by omega⟩
    obtain ⟨z, z1, z2, z3⟩ := h b (by omega) p hp
    obtain ⟨w1, w2, w3, w4⟩ := thg_mem.1 z1
    obtain ⟨j, rfl⟩ : ∃ j : Nat, z = j := ⟨z.toNat, by omega⟩
    exact ⟨i, j, by omega, by omega, x2, z2, y4, w4, by rw [hbe]; exact fun e => z3 e.symm⟩
  · intro h b _ p hp
    obtain ⟨i, j, h1, h2, h3, h4, h5, h6, h7⟩ := h p hp
    by_cases e : gv c i = b
    · exact ⟨j, thg_mem.2 ⟨by omega, by omega, h4.1, h6⟩, h4, fun e2 => h7 (by rw [e, e2])⟩
    · exact ⟨i, thg_mem.2 ⟨by omega, by omega, h3.1, h5⟩, h3, e⟩
def hasB (ts : List Thing) (ms : List Mark) (c : Int) : Nat → Int → Int → Bool
  | 0, _, _ => false
  | n + 1, i, at_ => match ts[i.toNat]? with
    | none => false
    | some t => decide (t.at_ ≤ at_) && (ms.any (fun m => decide (m.change = c) && decide (m.thing = i) && decide (m.at_ ≤ at_)) || (decide (t.of ≠ -1) && hasB ts ms c n t.of t.at_))
theorem hasB_iff {ts : List Thing} {ms : List Mark} {c : Int} : ∀ (n : Nat) (i at_ : Int), hasOf ts ms c n i at_ ↔ hasB ts ms c n i at_ = true
  | 0, i, at_ => by simp [hasOf, hasB]
  | n + 1, i, at_ => by
    simp only [hasOf, hasB]
    cases h : ts[i.toNat]? with
    | none => simp
    | some t => simp [hasB_iff n, List.any_eq_true, and_assoc]
def hB (t : Town) (i : Nat) (c : Nat) : Bool := hasB t.ts t.ms c (i + 1) i t.mi
theorem hB_iff {t : Town} {i c : Nat} : hAt t i c ↔ hB t i c = true := by
  unfold hAt hasAt hB
  rw [hasB_iff, Int.toNat_natCast]
def thB (t : Town) (i : Nat) : Bool := decide (atT t i ≤ t.mi)
theorem thB_iff {t : Town} {i : Nat} : there t i ↔ thB t i = true := by unfold there thB; simp
def lkB (t : Town) (i : Nat) (c : Nat) : Bool := (List.range t.ts.length).any (fun x => thB t x && decide (pg t x = pg t i) && hB t x c) && !hB t i c
theorem lkB_iff {t : Town} {i c : Nat} : lkP t i c ↔ lkB t i c = true := by
  unfold lkP lkB
  simp only [Bool.and_eq_true, List.any_eq_true, List.mem_range, Bool.not_eq_true', decide_eq_true_eq]
  constructor
  · rintro ⟨⟨x, h1, h2⟩, h3⟩
    obtain ⟨y1, y2, y3, y4⟩ := thg_mem.1 h1
    obtain ⟨k, rfl⟩ : ∃ k : Nat, x = k := ⟨x.toNat, by omega⟩
    exact ⟨⟨k, by omega, ⟨thB_iff.1 y3, y4⟩, hB_iff.1 h2⟩, Bool.eq_false_iff.2 fun h => h3 (hB_iff.2 h)⟩
  · rintro ⟨⟨k, h1, ⟨h2, h3⟩, h4⟩, h5⟩
    exact ⟨⟨k, thg_mem.2 ⟨by omega, by omega, thB_iff.2 h2, h3⟩, hB_iff.2 h4⟩, fun h => by rw [hB_iff.1 h] at h5; cases h5⟩
theorem lks_B {t : Town} {i : Nat} : lks t i = selB (lkB t i) 3 := sel_selB _ fun _ _ => lkB_iff
def frB (t : Town) (i : Nat) : Bool := thB t i && (selB (lkB t i) 3).isEmpty
theorem frB_iff {t : Town} {i : Nat} : fr t i ↔ frB t i = true := by
  unfold fr frB
  rw [lks_B, Bool.and_eq_true, ← thB_iff, List.isEmpty_iff]
def pgB (t : Town) (i : Nat) : Bool := decide (ofT t i = -1) && (List.range t.ts.length).any (fun x => thB t x && decide (pg t x = i))
theorem pgB_iff {t : Town} {i : Nat} (hi : i < t.ts.length) : pgP t i ↔ pgB t i = true := by
  unfold pgP pgB isPage within
  simp only [Bool.and_eq_true, List.any_eq_true, List.mem_range, decide_eq_true_eq]
  constructor
  · rintro ⟨⟨_, h1⟩, h2⟩
    refine ⟨h1, ?_⟩
    rcases e : thg t (i : Int) with _ | ⟨x, r⟩
    · exact absurd e h2
    · obtain ⟨y1, y2, y3, y4⟩ := thg_mem.1 (show x ∈ thg t i by rw [e]; simp)
      obtain ⟨k, rfl⟩ : ∃ k : Nat, x = k := ⟨x.toNat, by omega⟩
      exact ⟨k, by omega, thB_iff.1 y3, y4⟩
  · rintro ⟨h1, k, h2, h3, h4⟩
    refine ⟨⟨by omega, h1⟩, fun e => ?_⟩
    have : (k : Int) ∈ thg t i := thg_mem.2 ⟨by omega, by omega, thB_iff.2 h3, h4⟩
    rw [e] at this; simp at this
theorem pags_B {t : Town} : pags t = selB (pgB t) t.ts.length := sel_selB _ fun _ hi => pgB_iff hi
def grp (t : Town) : List (List Nat) := (selB (pgB t) t.ts.length).map fun p => (List.range t.ts.length).filter fun i => frB t i && decide (pg t i = p)
def sprB (g : List (List Nat)) (c : List Int) : Bool := g.all fun l => l.any fun i => l.any fun j => decide (gv c i ≠ gv c j)
theorem sprB_iff {t : Town} {c : List Int} : spr t c ↔ sprB (grp t) c = true := by
  unfold spr sprB grp
  rw [pags_B]
  simp only [List.all_eq_true, List.mem_map, forall_exists_index, and_imp, forall_apply_eq_imp_iff₂, List.any_eq_true, List.mem_filter, List.mem_range, Bool.and_eq_true, decide_eq_true_eq]
  refine forall_congr' fun p => imp_congr_right fun _ => ?_
  constructor
  · rintro ⟨i, j, h1, h2, h3, h4, h5, h6, h7⟩
    exact ⟨i, ⟨h1, frB_iff.1 h3, h5⟩, j, ⟨h2, frB_iff.1 h4, h6⟩, h7⟩
  · rintro ⟨i, ⟨h1, h3, h5⟩, j, ⟨h2, h4, h6⟩, h7⟩
    exact ⟨i, j, h1, h2, frB_iff.2 h3, frB_iff.2 h4, h5, h6, h7⟩
def cntB (t : Town) (pl : List Int) (b : Int) : Nat → Nat
  | 0 => 0
  | k + 1 => cntB t pl b k + if (decide (gv pl k = b) && thB t k) = true then 1 else 0
theorem cntB_eq {t : Town} {pl : List Int} {b : Int} : ∀ k, cntP t pl b k = cntB t pl b k
  | 0 => rfl
  | k + 1 => by
    simp only [cntP, cntB, cntB_eq k]
    by_cases h : gv pl k = b ∧ there t k
    · rw [if_pos h, if_pos (by simp [h.1, thB_iff.1 h.2])]
    · rw [if_neg h, if_neg]
      intro hh
      simp only [Bool.and_eq_true, decide_eq_true_eq] at hh
      exact h ⟨hh.1, thB_iff.2 hh.2⟩
def roomyB (t : Town) (pl : List Int) : Bool := (List.range t.rm.length).all fun b => decide ((cntB t pl b pl.length : Int) ≤ gv t.rm b)
theorem roomyB_iff {t : Town} {pl : List Int} : roomy t pl ↔ roomyB t pl = true := by
  unfold roomy roomyB
  simp only [List.all_eq_true, List.mem_range, decide_eq_true_eq, cntB_eq]
def worseB (S : Best) (a b : Int) : Bool := match S with
  | none => false
  | some x => !(decide (a < x.2.1) || (decide (a = x.2.1) && decide (b < x.2.2)))
theorem worseB_iff {S : Best} {a b : Int} : worse S a b ↔ worseB S a b = true := by
  rcases S with _ | x
  · exact ⟨fun h => absurd h worse_none, fun h => by cases h⟩
  · unfold worse worseB
    simp only [Bool.not_eq_true', Bool.or_eq_false_iff, Bool.and_eq_false_iff, decide_eq_false_iff_not]
    constructor
    · rintro ⟨y, e, h⟩
      cases e
      unfold lexlt at h
      simp only at h
      omega
    · rintro h
      refine ⟨x, rfl, ?_⟩
      unfold lexlt
      simp only
      omega
def visB (t : Town) (g : List (List Nat)) : Nat → List Int → Int → Int → Best → Best
  | 0, pre, a, b, S => if worseB S a b = true then S else if (roomyB t pre && sprB g pre) = true then some (pre, a, b) else S
  | d + 1, pre, a, b, S => if worseB S a b = true then S else (List.range t.rm.length).foldl (fun S (i : Nat) => if (i : Int) = gv t.pl pre.length then visB t g d (pre ++ [(i : Int)]) a b S else if thB t pre.length = true then visB t g d (pre ++ [(i : Int)]) (a + gv t.ca pre.length) (b + 1) S else S) S
theorem foldl_congr' {α β : Type} {f g : β → α → β} : ∀ {l : List α} {b : β}, (∀ b a, a ∈ l → f b a = g b a) → l.foldl f b = l.foldl g b
  | [], _, _ => rfl
  | x :: l, b, h => by
    rw [List.foldl_cons, List.foldl_cons, h b x (by simp), foldl_congr' fun b a ha => h b a (by simp [ha])]
theorem vis_B {t : Town} (hr : 0 < t.rm.length) : ∀ (d : Nat) (pre : List Int) (a b : Int) (S : Best), pre.length + d = t.ts.length → (∀ i : Nat, i < pre.length → 0 ≤ gv pre i ∧ gv pre i < t.rm.length) → vis t d pre a b S = visB t (grp t) d pre a b S
  | 0, pre, a, b, S, hd, hp => by
    rw [vis_zero, visB]
    by_cases hw : worse S a b
    · rw [if_pos hw, if_pos (worseB_iff.1 hw)]
    · rw [if_neg hw, if_neg fun h => hw (worseB_iff.2 h)]
      have he : endP t pre ↔ (roomyB t pre && sprB (grp t) pre) = true := by
        unfold endP
        rw [Bool.and_eq_true, ← roomyB_iff, ← sprB_iff, safe_spr hr fun i hi => hp i (by omega)]
      by_cases h : endP t pre
      · rw [if_pos h, if_pos (he.1 h)]
      · rw [if_neg h, if_neg fun hh => h (he.2 hh)]
  | d + 1, pre, a, b, S, hd, hp => by
    rw [vis_succ, visB]
    by_cases hw : worse S a b
    · rw [if_pos hw, if_pos (worseB_iff.1 hw)]
    · rw [if_neg hw, if_neg fun h => hw (worseB_iff.2 h)]
      unfold visT
      refine foldl_congr' fun S i hi => ?_
      have hi := List.mem_range.1 hi
      have hp2 : ∀ k : Nat, k < (pre ++ [(i : Int)]).length → 0 ≤ gv (pre ++ [(i : Int)]) k ∧ gv (pre ++ [(i : Int)]) k < t.rm.length := fun k hk => by
        rw [List.length_append, List.length_singleton] at hk
        rcases Nat.lt_or_ge k pre.length with h | h
        · rw [gv_app h]; exact hp k h
        · have : k = pre.length := by omega
          subst this
          rw [gv_end]; omega
      have hl2 : (pre ++ [(i : Int)]).length + d = t.ts.length := by rw [List.length_append, List.length_singleton]; omega
      rw [vis_B hr d _ _ _ _ hl2 hp2, vis_B hr d _ _ _ _ hl2 hp2]
      by_cases h1 : (i : Int) = gv t.pl pre.length
      · rw [if_pos h1, if_pos h1]
      · rw [if_neg h1, if_neg h1]
        by_cases h2 : there t pre.length
        · rw [if_pos h2, if_pos (thB_iff.1 h2)]
        · rw [if_neg h2, if_neg fun h => h2 (thB_iff.2 h)]
end Go.Proofs.YtjlopclpofbgbaaDoor

