/- Contracts of functions of the given program, without a condition beyond those that each theorem states; they lead to the given statement. -/
import Derived.Test.YtoadkchhimojlaaGreatG04g
set_option linter.unusedSimpArgs false
set_option linter.unusedVariables false
set_option maxRecDepth 100000
namespace Go.Proofs.YtoadkchhimojlaaGreat
open Go Go.Fl
open Classical
section
variable {P : Program} {nt m : Nat} {R : Exit → St → Prop} {st : St}
theorem post_cut {F : Fence} {E : Cx} {I : St → Prop} {y : Code} (h2 : ∀ s (a : Act) (w : World), I s → Fl.Good nt E s a w → post P F nt E R [.code y] .normal a w) : ∀ (pre : List Code) (e : Exit) (a : Act) (w : World), post P F nt E R (pre.map It.code ++ [.back I]) e a w → post P F nt E R [.code (pre.foldr Code.seq y)] e a w
  | [], e, a, w, h => by
    cases e with
    | normal => obtain ⟨s, hs, hg⟩ := h; exact h2 s a w hs hg
    | _ => exact h
  | x :: pre, e, a, w, h => by
    have key : ∀ e a w, e ≠ .normal → post P F nt E R (pre.map It.code ++ [.back I]) e a w → post P F nt E R [] e a w := fun e a w he hp => by
      have := post_cut h2 pre e a w hp
      cases e <;> first | exact this | exact absurd rfl he
    cases e with
    | normal =>
      refine wpIn_seq (wpIn_mono h fun e a w hp => ?_)
      cases e with
      | normal => exact post_cut h2 pre .normal a w hp
      | _ => exact key _ a w (by simp) hp
    | _ => exact key _ a w (by simp) h
theorem rel_codes {I : St → Prop} : ∀ (pre : List Code), Rel (pre.map Iv.code ++ [.back I]) (pre.map It.code ++ [.back I])
  | [] => ⟨_, rfl, rfl⟩
  | _ :: pre => ⟨_, rfl, rel_codes pre⟩
theorem CV.cutN {α : Type} (pre : List Code) {y : Code} (S2 : α → St) (X : α → Prop) (h1 : CV P nt m R (pre.map Iv.code ++ [.back fun s => ∃ z, Wn m s (S2 z) ∧ X z]) st) (h2 : ∀ z, X z → CV P nt m R [.code y] (S2 z)) : CV P nt m R [.code (pre.foldr Code.seq y)] st := by
  refine CV.mk fun k' hr => ?_
  obtain ⟨r, rfl, hr'⟩ := hr
  have hr' : r = [] := hr'
  subst hr'
  intro F E a w hF hE hg
  have h := h1.of _ (rel_codes pre) F E a w hF hE hg
  exact post_cut (fun s a w ⟨z, hs, hx⟩ hgs => (h2 z hx).of _ ⟨_, rfl, rfl⟩ F E a w hF hE (hs.good hE hgs)) pre .normal a w h
theorem CV.cut6 {α : Type} {x0 x1 x2 x3 x4 x5 y : Code} (S2 : α → St) (X : α → Prop) (h1 : CV P nt m R [.code x0, .code x1, .code x2, .code x3, .code x4, .code x5, .back fun s => ∃ z, Wn m s (S2 z) ∧ X z] st) (h2 : ∀ z, X z → CV P nt m R [.code y] (S2 z)) : CV P nt m R [.code (x0.seq (x1.seq (x2.seq (x3.seq (x4.seq (x5.seq y))))))] st :=
  CV.cutN [x0, x1, x2, x3, x4, x5] S2 X h1 h2
end
def plansG (h : House) (stop : Int) : List (List (List Int)) := plansF h.ms.length stop h.bs.length (h.ms.length + h.bs.length + 1) 0 (List.replicate h.ms.length [])
theorem usd_nil (k i : Nat) : usd (List.replicate k []) i = false := by
  rw [← Bool.not_eq_true, usd_iff]
  rintro ⟨l, h1, h2⟩
  rw [List.eq_of_mem_replicate h1] at h2; simp at h2
theorem okQ_nil (k nb : Nat) : okQ k nb (List.replicate k []) := by
  refine ⟨by simp, fun l hl b hb => ?_, ?_⟩
  · rw [List.eq_of_mem_replicate hl] at hb; simp at hb
  · have h1 : ∀ k, lens (List.replicate k []) = 0 := by
      intro k
      induction k with
      | zero => rfl
      | succ k ih => simp [List.replicate_succ, lens, ih]
    have h2 : ∀ n, cnt (usd (List.replicate k [])) n = n := by
      intro n
      induction n with
      | zero => rfl
      | succ n ih => rw [cnt, ih, usd_nil]; simp
    rw [h1, h2]; omega
theorem nodup_nil (k : Nat) : (List.replicate k ([] : List Int)).flatten.Nodup := by
  have : (List.replicate k ([] : List Int)).flatten = [] := by simp
  rw [this]; exact List.nodup_nil
theorem bs_nil (k : Nat) : bs (usd (List.replicate k [])) 5 = 0 := by
  simp [bs, usd_nil]
theorem rep_getD (k m : Nat) : (List.replicate k ([] : List Int)).getD m [] = [] := by
  rw [List.getD_eq_getElem?_getD, List.getElem?_replicate]; split <;> rfl
theorem plansG_ok {h : House} {stop : Int} {q : List (List Int)} (hq : q ∈ plansG h stop) : okQ h.ms.length h.bs.length q ∧ q.flatten.Nodup :=
  plansF_ok _ _ _ (okQ_nil _ _) (nodup_nil _) (Nat.zero_le _) q hq
theorem plansG_len {h : House} {stop : Int} (hk : okG h) (h3 : h.bs.length ≤ 3) : (plansG h stop).length ≤ 16384 := by
  have h1 := plansF_len (k := h.ms.length) (nb := h.bs.length) (stop := stop) (h.ms.length + h.bs.length + 1) 0 (List.replicate h.ms.length [])
  have hm := hk.2.1
  have h2 : (h.bs.length + 1) ^ (h.ms.length + h.bs.length + 1) ≤ 4 ^ 7 := Nat.le_trans (Nat.pow_le_pow_left (by omega) _) (Nat.pow_le_pow_right (by omega) (by omega))
  exact Nat.le_trans h1 h2
def foundN (a : Hall) (stop : Int) : List (List Int × Int) := (plansG a.hs stop).foldl (stN a) []
theorem foundN_ok {a : Hall} (ha : okH a) (stop : Int) : okF (foundN a stop) (plansG a.hs stop).length := by
  have := okF.fold (a := a) (L := plansG a.hs stop) (F := []) (c := 0) (fun e he => by cases he) fun q hq => by
    have := (plansG_ok hq).1.len; have := ha.1.2.1; omega
  rw [Nat.zero_add] at this
  exact this
def encK (s : List Int) : List AV := s.map I
theorem pureK (l : List (List Int)) : pureE (l.map encK) = True := pureE_map fun s => pureL_mapI s
attribute [go_sem] pureK
abbrev lK (l : List (List Int)) : AV := .lst false 12 (l.map encK)
def allL {α : Type} (l : List α) : Nat → List (List α)
  | 0 => [[]]
  | n + 1 => [] :: l.flatMap fun x => (allL l n).map fun r => x :: r
theorem mem_allL {α : Type} {l : List α} : ∀ {n : Nat} {xs : List α}, xs ∈ allL l n ↔ xs.length ≤ n ∧ ∀ x, x ∈ xs → x ∈ l
  | 0, [] => by simp [allL]
  | 0, x :: xs => by simp [allL]
  | n + 1, [] => by simp [allL]
  | n + 1, x :: xs => by
    have ih := mem_allL (l := l) (n := n) (xs := xs)
    simp only [allL, List.mem_cons, List.mem_flatMap, List.mem_map, List.length_cons, reduceCtorEq, false_or]
    constructor
    · rintro ⟨y, h1, r, h2, h3⟩
      cases h3
      obtain ⟨h4, h5⟩ := ih.1 h2
      exact ⟨by omega, fun z hz => by rcases hz with rfl | hz; exact h1; exact h5 z hz⟩
    · rintro ⟨h1, h2⟩
      exact ⟨x, h2 x (.inl rfl), xs, ih.2 ⟨by omega, fun z hz => h2 z (.inr hz)⟩, rfl⟩
def keysF (F : List (List Int × Int)) : List (List Int) := F.map fun e => e.1
def isMin (K : List (List Int)) (s : List Int) : Prop := ∀ t, t ∈ K → s = t ∨ ¬ misS s t = zer12
def goodN (K : List (List Int)) (out : List (List Int)) : Prop := ∀ s, s ∈ out ↔ s ∈ K ∧ isMin K s
noncomputable def altN (a : Hall) (stop : Int) : List (List (List Int)) := (allL (keysF (foundN a stop)) (foundN a stop).length).filter fun out => decide (goodN (keysF (foundN a stop)) out)
theorem mem_altN {a : Hall} {stop : Int} {out : List (List Int)} : out ∈ altN a stop ↔ (out.length ≤ (foundN a stop).length ∧ ∀ s, s ∈ out → s ∈ keysF (foundN a stop)) ∧ goodN (keysF (foundN a stop)) out := by
  unfold altN; rw [List.mem_filter, mem_allL, decide_eq_true_eq]
theorem nodup_lt : ∀ {n : Nat} {l : List Nat}, l.Nodup → (∀ x, x ∈ l → x < n) → l.length ≤ n
  | 0, [], _, _ => by simp
  | 0, x :: _, _, h => absurd (h x (by simp)) (by omega)
  | n + 1, l, hn, h => by
    by_cases hm : n ∈ l
    · have h1 := nodup_lt (n := n) (l := l.erase n) (hn.erase n) fun x hx => by
        have h2 := h x (List.mem_of_mem_erase hx)
        have h3 : x ≠ n := fun e => by subst e; exact (List.Nodup.not_mem_erase hn) hx
        omega
      rw [List.length_erase_of_mem hm] at h1; omega
    · have := nodup_lt (n := n) (l := l) hn fun x hx => by
        have h2 := h x hx
        have h3 : x ≠ n := fun e => by subst e; exact hm hx
        omega
      omega
end Go.Proofs.YtoadkchhimojlaaGreat

