/- Contracts of functions of the given program, without a condition beyond those that each theorem states; they lead to the given statement. -/
import Derived.Test.YtllmohmgakdbdaaW07v
set_option linter.unusedSimpArgs false
set_option linter.unusedVariables false
set_option maxRecDepth 100000
namespace Go.Proofs.Ytllmohmgakdbdaa
open Go Go.Fl
open Classical
def selB (p : Nat → Bool) : Nat → List Int
  | 0 => []
  | n + 1 => if p n = true then selB p n ++ [(n : Int)] else selB p n
theorem sel_selB {p : Nat → Prop} {q : Nat → Bool} : ∀ n, (∀ i, i < n → (p i ↔ q i = true)) → sel p n = selB q n
  | 0, _ => rfl
  | n + 1, h => by
    have e := sel_selB n (fun i hi => h i (by omega))
    have hn := h n (by omega)
    by_cases hp : p n
    · rw [sel_yes hp, e]; simp [selB, hn.1 hp]
    · rw [sel_no hp, e]
      have : ¬ q n = true := fun hq => hp (hn.2 hq)
      simp [selB, this]
def lkB (ts : List Thing) (ms : List Mark) (c : Int) (i : Nat) : Bool := match ts[i]? with | some t => t.prints == 1 && !decide (gv (fo ts ms c ts.length).1 i ≤ 99) | none => false
theorem lk_lkB (ts : List Thing) (ms : List Mark) (hv : okThings ts) (hm : okMarks ts ms) (h8 : ts.length ≤ 8) (c : Int) (i : Nat) (hi : i < ts.length) : lk ts ms c i ↔ lkB ts ms c i = true := by
  obtain ⟨t, ht⟩ := get_of hi
  have := hasAt_iff ts ms hv hm h8 c i 99 (by omega) (by omega)
  simp [lk, lkB, ht, this]
theorem sel_lk (ts : List Thing) (ms : List Mark) (hv : okThings ts) (hm : okMarks ts ms) (h8 : ts.length ≤ 8) (c : Int) : sel (lk ts ms c) ts.length = selB (lkB ts ms c) ts.length := sel_selB _ fun i hi => lk_lkB ts ms hv hm h8 c i hi
def setB (k n : Nat) : List Int := selB (fun i => k / 2 ^ i % 2 == 1) n
theorem setOf_setB (k n : Nat) : setOf k n = setB k n := sel_selB _ fun i _ => by simp [bitOf]
def isRemB (ts : List Thing) (ms : List Mark) (c now : Int) (l : List Int) : Bool := (selB (lkB ts (ms ++ altM ts c now l) c) ts.length).isEmpty
def betterB (ts : List Thing) (a b : List Int) : Bool := decide (orL [costOf ts a - costOf ts b, (a.length : Int) - b.length, lexC a b] < 0)
def bestB (ts : List Thing) (ms : List Mark) (c now : Int) : Nat → Option (List Int)
  | 0 => none
  | k + 1 => if isRemB ts ms c now (setB k ts.length) = true then
      match bestB ts ms c now k with
      | none => some (setB k ts.length)
      | some b => if betterB ts (setB k ts.length) b = true then some (setB k ts.length) else some b
    else bestB ts ms c now k
theorem bestK_bestB (ts : List Thing) (ms : List Mark) (hv : okThings ts) (hm : okMarks ts ms) (h8 : ts.length ≤ 8) (c now : Int) (hc : within c 0 2) (hn : within now 0 99) : ∀ k, bestK ts ms c now k = bestB ts ms c now k
  | 0 => rfl
  | k + 1 => by
    have ih := bestK_bestB ts ms hv hm h8 c now hc hn k
    have hr : isRem ts ms c now (setOf k ts.length) ↔ isRemB ts ms c now (setB k ts.length) = true := by
      have hmo : okMarks ts (ms ++ altM ts c now (setOf k ts.length)) := hm.append (altM_ok ts hv c now hc hn _ _ (Nat.le_refl _))
      unfold isRem isRemB
      rw [sel_lk ts _ hv hmo h8, ← setOf_setB, List.isEmpty_iff]
    unfold bestK bestB
    rw [ih, ← setOf_setB]
    rw [← setOf_setB] at hr
    by_cases h : isRem ts ms c now (setOf k ts.length)
    · rw [if_pos h, if_pos (hr.1 h)]
      cases bestB ts ms c now k with
      | none => rfl
      | some b =>
        simp only
        by_cases hb : better ts (setOf k ts.length) b
        · rw [if_pos hb, if_pos (by simpa [betterB, better] using hb)]
        · rw [if_neg hb, if_neg (by simpa [betterB, better] using hb)]
    · rw [if_neg h, if_neg (fun h' => h (hr.2 h'))]
def mixedB (s : List Int) (m : Int) (l : List Int) : Bool := l.any (fun n => decide (gv s n ≤ m)) && l.any (fun n => !decide (gv s n ≤ m))
theorem mixes_mixedB (s : List Int) (m : Int) (l : List Int) : mixes s m l ↔ mixedB s m l = true := by simp [mixes, mixedB]
def thereB (ts : List Thing) (m : Int) (n : Nat) : Bool := match ts[n]? with | some t => t.prints == 1 && decide (t.at_ ≤ m) | none => false
theorem there_thereB (ts : List Thing) (m : Int) (n : Nat) : thereAt ts m n ↔ thereB ts m n = true := by
  unfold thereAt thereB
  cases ts[n]? <;> simp
def spanB (ts : List Thing) (s : List Int) : Nat → Int × Int
  | 0 => (100, 0)
  | n + 1 => if mixedB s n (selB (thereB ts n) ts.length) = true then (min (spanB ts s n).1 n, (n : Int)) else spanB ts s n
theorem spanT_spanB (ts : List Thing) (ms : List Mark) (c : Int) : ∀ n, spanT ts ms c n = spanB ts (sP ts ms c) n
  | 0 => rfl
  | n + 1 => by
    have ih := spanT_spanB ts ms c n
    have h : mixedAt ts ms c n ↔ mixedB (sP ts ms c) n (selB (thereB ts n) ts.length) = true := by
      unfold mixedAt
      rw [sel_selB (q := thereB ts n) _ fun i _ => there_thereB ts n i, mixes_mixedB]
    unfold spanT spanB
    rw [ih]
    by_cases hm : mixedAt ts ms c n
    · rw [if_pos hm, if_pos (h.1 hm)]
    · rw [if_neg hm, if_neg (fun h' => hm (h.2 h'))]
theorem ex_t : okThings exT := by
  intro i t h
  have hi := (List.getElem?_eq_some_iff.1 h).1
  unfold okThing within upAt
  match i, hi with
  | 0, _ | 1, _ | 2, _ | 3, _ | 4, _ | 5, _ => cases h; decide
theorem ex_m : okMarks exT exM := by
  intro m h
  unfold okMark within upAt
  simp only [exM, List.mem_cons, List.not_mem_nil, or_false] at h
  rcases h with rfl | rfl <;> decide
theorem ex_v : valid exT exM := ⟨by decide, by decide, ex_t, ex_m⟩
theorem exg_t : okThings exG := by
  intro i t h
  have hi := (List.getElem?_eq_some_iff.1 h).1
  unfold okThing within upAt
  match i, hi with
  | 0, _ | 1, _ | 2, _ | 3, _ | 4, _ | 5, _ => cases h; decide
theorem exg_m : okMarks exG exM := by
  intro m h
  unfold okMark within upAt
  simp only [exM, List.mem_cons, List.not_mem_nil, or_false] at h
  rcases h with rfl | rfl <;> decide
theorem exg_v : valid exG exM := ⟨by decide, by decide, exg_t, exg_m⟩
theorem e_lacks : rLacks exT exM 1 = ([2, 3], 0) := by
  rw [show rLacks exT exM 1 = _ from answer_yes ⟨ex_v, by unfold within; decide⟩, sel_lk exT exM ex_t ex_m (by decide) 1]
  rfl
theorem e_since : rSince exT exM 5 1 = (30, 0) := by
  rw [show rSince exT exM 5 1 = _ from answer_yes ⟨ex_v, by unfold within; decide, by unfold within; decide⟩, since_gv exT exM ex_t ex_m (by decide) 1 5 (by decide)]
  rfl
theorem e_time : rTime exT exM 0 = ((20, 99), 0) := by
  rw [show rTime exT exM 0 = _ from answer_yes ⟨ex_v, by unfold within; decide⟩, spanT_spanB]
  have : spanB exT (sP exT exM 0) 100 = (20, 99) := by kernel_rfl
  rw [this]; rfl
theorem e_cheap : rCheap exG exM 1 15 = (10, 0) := by
  rw [show rCheap exG exM 1 15 = _ from answer_yes ⟨exg_v, by unfold within; decide, by unfold within; decide⟩, bestL, bestK_bestB exG exM exg_t exg_m (by decide) 1 15 (by unfold within; decide) (by unfold within; decide)]
  have : bestB exG exM 1 15 (2 ^ exG.length) = some [2, 3] := by kernel_rfl
  rw [this]; rfl
theorem e_remedy : rRemedy exT exM 0 15 = ([2, 5], 0) := by
  rw [show rRemedy exT exM 0 15 = _ from answer_yes ⟨ex_v, by unfold within; decide, by unfold within; decide⟩, bestL, bestK_bestB exT exM ex_t ex_m (by decide) 0 15 (by unfold within; decide) (by unfold within; decide)]
  have : bestB exT exM 0 15 (2 ^ exT.length) = some [2, 5] := by kernel_rfl
  rw [this]; rfl
theorem e_mixed : rMixed exT exM [3, 5] 40 = ([0, 1], 0) := by
  have hp : arePl exT [3, 5] 40 := by
    intro j hj
    unfold plAt risingAt within
    match j, hj with
    | 0, _ => exact ⟨⟨3, rfl, by decide, fun h => absurd h (by decide)⟩, 3, ⟨1, 20, 3, 1⟩, rfl, rfl, rfl, by decide⟩
    | 1, _ => exact ⟨⟨5, rfl, by decide, fun _ => ⟨3, rfl, by decide⟩⟩, 5, ⟨4, 30, 2, 1⟩, rfl, rfl, rfl, by decide⟩
  rw [show rMixed exT exM [3, 5] 40 = _ from answer_yes ⟨ex_v, by unfold within; decide, hp⟩]
  rw [sel_selB (q := fun c : Nat => mixedB (sP exT exM c) 40 [3, 5]) _ fun c _ => by
    rw [← mixes_mixedB, mixes_iff exT exM ex_t ex_m (by decide) c [3, 5] 40 hp.range (by decide)]]
  have : selB (fun c : Nat => mixedB (sP exT exM c) 40 [3, 5]) 3 = [0, 1] := by kernel_rfl
  rw [this]
set_option maxHeartbeats 4000000 in
theorem c18 : PC Try.prog 18 [] (.bool true) := by
  have h21 := c21 exT exM 1
  have h48 := c48 exT exM 5 1
  have h32 := c32 exT exM 0
  have h29 := c29 exT exM [3, 5] 40
  have h52 := c52 exG exM 1 15
  have h20 := c20 exT exM 0 15
  rw [e_lacks] at h21
  rw [e_since] at h48
  rw [e_time] at h32
  rw [e_mixed] at h29
  rw [e_cheap] at h52
  rw [e_remedy] at h20
  have g1 := c40 [2, 3] [2, 3]
  have g2 := c40 [0, 1] [0, 1]
  have g3 := c40 [2, 5] [2, 5]
  simp only [decide_true] at g1 g2 g3
  have h58 := c58
  generalize exT = T at *
  generalize exG = G at *
  generalize exM = M at *
  simp only [lN, List.map_cons, List.map_nil, encN] at g1 g2 g3 h21 h29 h20
  refine PC.body Try.func18 (by kernel_rfl) rfl (by simp [Try.f18]) rfl ?_
  simp only [Try.f18]
  intro hlen
  simp only [go_sem, List.length_map, and_true, true_and] at hlen
  refine CV.run ?_
  (repeat' (first | ((first | with_reducible refine vcG_split ?_ ?_ | with_reducible refine vcIf_split ?_ ?_ | with_reducible refine vcQ_split ?_ ?_ | with_reducible refine vcDG_split ?_ ?_) <;> intro hb <;> (try rw [hb]) <;> (try simp only [Bool.and_eq_true, Bool.or_eq_true, dtrue, dfalse, Bool.not_eq_true', Bool.not_eq_false', Bool.and_eq_false_iff, Bool.or_eq_false_iff, Bool.not_true, Bool.not_false] at hb) <;> (try simp only [within] at hb) <;> try (simp only [go_sem])) | refine And.intro (by (first | exact trivial | (simp only [I64]; omega) | omega)) ?_ | (first | (refine vcP_pure (h58) rfl ?_ ?_ ?_; (focus (first | rfl | ((simp only [go_sem, AV.pureL, AV.pure, pureL_mapI, Bool.and_self]) <;> fail))); (focus (first | ((simp only [go_sem]) <;> fail) | rfl))) | (refine dCallP_pure (h58) rfl ?_ ?_ ?_; (focus (first | rfl | ((simp only [go_sem, AV.pureL, AV.pure, pureL_mapI, Bool.and_self]) <;> fail))); (focus (first | ((simp only [go_sem]) <;> fail) | rfl))) | refine vcP_safe (h58) rfl rfl (by (simp only [go_sem])) ?_ | refine dCallP_safe (h58) rfl rfl ?_ | (refine vcP_pure (h21) rfl ?_ ?_ ?_; (focus (first | rfl | ((simp only [go_sem, AV.pureL, AV.pure, pureL_mapI, Bool.and_self]) <;> fail))); (focus (first | ((simp only [go_sem]) <;> fail) | rfl))) | (refine dCallP_pure (h21) rfl ?_ ?_ ?_; (focus (first | rfl | ((simp only [go_sem, AV.pureL, AV.pure, pureL_mapI, Bool.and_self]) <;> fail))); (focus (first | ((simp only [go_sem]) <;> fail) | rfl))) | refine vcP_safe (h21) rfl rfl (by (simp only [go_sem])) ?_ | refine dCallP_safe (h21) rfl rfl ?_ | (refine vcP_pure (h48) rfl ?_ ?_ ?_; (focus (first | rfl | ((simp only [go_sem, AV.pureL, AV.pure, pureL_mapI, Bool.and_self]) <;> fail))); (focus (first | ((simp only [go_sem]) <;> fail) | rfl))) | (refine dCallP_pure (h48) rfl ?_ ?_ ?_; (focus (first | rfl | ((simp only [go_sem, AV.pureL, AV.pure, pureL_mapI, Bool.and_self]) <;> fail))); (focus (first | ((simp only [go_sem]) <;> fail) | rfl))) | refine vcP_safe (h48) rfl rfl (by (simp only [go_sem])) ?_ | refine dCallP_safe (h48) rfl rfl ?_ | (refine vcP_pure (h32) rfl ?_ ?_ ?_; (focus (first | rfl | ((simp only [go_sem, AV.pureL, AV.pure, pureL_mapI, Bool.and_self]) <;> fail))); (focus (first | ((simp only [go_sem]) <;> fail) | rfl))) | (refine dCallP_pure (h32) rfl ?_ ?_ ?_; (focus (first | rfl | ((simp only [go_sem, AV.pureL, AV.pure, pureL_mapI, Bool.and_self]) <;> fail))); (focus (first | ((simp only [go_sem]) <;> fail) | rfl))) | refine vcP_safe (h32) rfl rfl (by (simp only [go_sem])) ?_ | refine dCallP_safe (h32) rfl rfl ?_ | (refine vcP_pure (h29) rfl ?_ ?_ ?_; (focus (first | rfl | ((simp only [go_sem, AV.pureL, AV.pure, pureL_mapI, Bool.and_self]) <;> fail))); (focus (first | ((simp only [go_sem]) <;> fail) | rfl))) | (refine dCallP_pure (h29) rfl ?_ ?_ ?_; (focus (first | rfl | ((simp only [go_sem, AV.pureL, AV.pure, pureL_mapI, Bool.and_self]) <;> fail))); (focus (first | ((simp only [go_sem]) <;> fail) | rfl))) | refine vcP_safe (h29) rfl rfl (by (simp only [go_sem])) ?_ | refine dCallP_safe (h29) rfl rfl ?_ | (refine vcP_pure (h52) rfl ?_ ?_ ?_; (focus (first | rfl | ((simp only [go_sem, AV.pureL, AV.pure, pureL_mapI, Bool.and_self]) <;> fail))); (focus (first | ((simp only [go_sem]) <;> fail) | rfl))) | (refine dCallP_pure (h52) rfl ?_ ?_ ?_; (focus (first | rfl | ((simp only [go_sem, AV.pureL, AV.pure, pureL_mapI, Bool.and_self]) <;> fail))); (focus (first | ((simp only [go_sem]) <;> fail) | rfl))) | refine vcP_safe (h52) rfl rfl (by (simp only [go_sem])) ?_ | refine dCallP_safe (h52) rfl rfl ?_ | (refine vcP_pure (h20) rfl ?_ ?_ ?_; (focus (first | rfl | ((simp only [go_sem, AV.pureL, AV.pure, pureL_mapI, Bool.and_self]) <;> fail))); (focus (first | ((simp only [go_sem]) <;> fail) | rfl))) | (refine dCallP_pure (h20) rfl ?_ ?_ ?_; (focus (first | rfl | ((simp only [go_sem, AV.pureL, AV.pure, pureL_mapI, Bool.and_self]) <;> fail))); (focus (first | ((simp only [go_sem]) <;> fail) | rfl))) | refine vcP_safe (h20) rfl rfl (by (simp only [go_sem])) ?_ | refine dCallP_safe (h20) rfl rfl ?_ | (refine vcP_pure (g1) rfl ?_ ?_ ?_; (focus (first | rfl | ((simp only [go_sem, AV.pureL, AV.pure, pureL_mapI, Bool.and_self]) <;> fail))); (focus (first | ((simp only [go_sem]) <;> fail) | rfl))) | (refine dCallP_pure (g1) rfl ?_ ?_ ?_; (focus (first | rfl | ((simp only [go_sem, AV.pureL, AV.pure, pureL_mapI, Bool.and_self]) <;> fail))); (focus (first | ((simp only [go_sem]) <;> fail) | rfl))) | refine vcP_safe (g1) rfl rfl (by (simp only [go_sem])) ?_ | refine dCallP_safe (g1) rfl rfl ?_ | (refine vcP_pure (g2) rfl ?_ ?_ ?_; (focus (first | rfl | ((simp only [go_sem, AV.pureL, AV.pure, pureL_mapI, Bool.and_self]) <;> fail))); (focus (first | ((simp only [go_sem]) <;> fail) | rfl))) | (refine dCallP_pure (g2) rfl ?_ ?_ ?_; (focus (first | rfl | ((simp only [go_sem, AV.pureL, AV.pure, pureL_mapI, Bool.and_self]) <;> fail))); (focus (first | ((simp only [go_sem]) <;> fail) | rfl))) | refine vcP_safe (g2) rfl rfl (by (simp only [go_sem])) ?_ | refine dCallP_safe (g2) rfl rfl ?_ | (refine vcP_pure (g3) rfl ?_ ?_ ?_; (focus (first | rfl | ((simp only [go_sem, AV.pureL, AV.pure, pureL_mapI, Bool.and_self]) <;> fail))); (focus (first | ((simp only [go_sem]) <;> fail) | rfl))) | (refine dCallP_pure (g3) rfl ?_ ?_ ?_; (focus (first | rfl | ((simp only [go_sem, AV.pureL, AV.pure, pureL_mapI, Bool.and_self]) <;> fail))); (focus (first | ((simp only [go_sem]) <;> fail) | rfl))) | refine vcP_safe (g3) rfl rfl (by (simp only [go_sem])) ?_ | refine dCallP_safe (g3) rfl rfl ?_) | (simp only [go_sem])))
  all_goals trace_state
end Go.Proofs.Ytllmohmgakdbdaa
