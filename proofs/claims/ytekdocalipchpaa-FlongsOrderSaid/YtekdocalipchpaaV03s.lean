/- Contracts of functions of the given program, without a condition beyond those that each theorem states; they lead to the given statement. -/
import Derived.Test.YtekdocalipchpaaV03d
set_option linter.unusedSimpArgs false
set_option linter.unusedVariables false
set_option linter.unusedVariables false
set_option maxRecDepth 100000
namespace Go.Proofs.Ytekdocalipchpaa
open Go Go.Fl
open Classical
/-! ### The worlds in another order -/
abbrev perS (s : Shop) (ws : List (List Int)) : Shop := ⟨s.ms, ws, s.wt, s.fr⟩
section
variable {s : Shop} {ws : List (List Int)}
theorem low_same {l m : List Int} (h : ∀ x, x ∈ l ↔ x ∈ m) : low l = low m := by
  by_cases hl : l = []
  · subst hl
    have : m = [] := List.eq_nil_iff_forall_not_mem.2 fun x hx => by have := (h x).2 hx; cases this
    rw [this]
  · have hm : m ≠ [] := fun q => by
      obtain ⟨x, hx⟩ := List.exists_mem_of_ne_nil _ hl
      have := (h x).1 hx
      rw [q] at this; cases this
    have a1 := low_le ((h _).2 (low_mem hm))
    have a2 := low_le ((h _).1 (low_mem hl))
    omega
theorem per_aW (hp : ws.Perm s.ws) : (aW (perS s ws)).Perm (aW s) := hp.filter (agrB s)
theorem per_lo (hp : ws.Perm s.ws) (i : Int) : lo (perS s ws) i = lo s i := by
  refine low_same fun x => ?_
  exact ((per_aW hp).map fun w => lf s w i).mem_iff
theorem per_cnt (hp : ws.Perm s.ws) (l : List Int) : cnt (perS s ws) l = cnt s l := by
  unfold cnt cntP
  have : holdsB (perS s ws) l = holdsB s l := rfl
  rw [this, ((per_aW hp).filter (holdsB s l)).length_eq]
theorem per_len (hp : ws.Perm s.ws) : (aW (perS s ws)).length = (aW s).length := (per_aW hp).length_eq
theorem per_tired (hp : ws.Perm s.ws) (i : Int) : tired (perS s ws) i = tired s i := by
  unfold tired cntP
  have : zero0 (perS s ws) i = zero0 s i := rfl
  rw [this, ((per_aW hp).filter (zero0 s i)).length_eq]
theorem per_nil (hp : ws.Perm s.ws) : aW (perS s ws) = [] ↔ aW s = [] := by
  have := per_len hp
  constructor
  · intro h; rw [h] at this; exact List.eq_nil_of_length_eq_zero this.symm
  · intro h; rw [h] at this; exact List.eq_nil_of_length_eq_zero this
theorem per_valid (hp : ws.Perm s.ws) : valid (perS s ws) ↔ valid s := by
  unfold valid okM okW
  simp only [hp.length_eq, hp.mem_iff]
theorem per_kn (hp : ws.Perm s.ws) (is : Prop) : kn (perS s ws) is = kn s is := by
  unfold kn
  simp only [per_valid hp, per_nil hp]
theorem per_surT (hp : ws.Perm s.ws) (p : Int) : ∀ k : Nat, surT (perS s ws) p k = surT s p k
  | 0 => rfl
  | k + 1 => by
    have ih := per_surT hp p k
    simp only [surT, sur1, ih, per_lo hp]
theorem per_neT (hp : ws.Perm s.ws) : ∀ k : Nat, neT (perS s ws) k = neT s k
  | 0 => rfl
  | k + 1 => by
    have ih := per_neT hp k
    have e : sur (perS s ws) k = sur s k := per_surT hp _ _
    simp only [neT, ne1, ih, e]
theorem per_new (hp : ws.Perm s.ws) : rNew (perS s ws) = rNew s := by
  unfold rNew
  rw [per_kn hp, show neN (perS s ws) = neN s from per_neT hp _]
theorem per_chance (hp : ws.Perm s.ws) (l : List Int) : rChance (perS s ws) l = rChance s l := by
  have e : isShB (perS s ws) l = isShB s l := rfl
  unfold rChance part knS
  rw [e, per_kn hp, per_cnt hp, per_len hp]
theorem per_teT (hp : ws.Perm s.ws) : ∀ k : Nat, teT (perS s ws) k = teT s k
  | 0 => by simp only [teT, per_len hp]
  | k + 1 => by
    have ih := per_teT hp k
    have e : worse (perS s ws) k = worse s k := by unfold worse; rw [per_len hp, per_tired hp]
    rw [teT, teT, ih, e]
theorem per_test (hp : ws.Perm s.ws) : rTest (perS s ws) = rTest s := by
  by_cases h : kn s True = 0
  · rw [rTest_yes h, rTest_yes (by rw [per_kn hp]; exact h)]
    simp only [per_teT hp]
  · rw [rTest_no h, rTest_no (by rw [per_kn hp]; exact h), per_kn hp]
theorem per_jl {can : List Int} : ∀ (d k : Nat) (W pre : List Int), jl (perS s ws) can d k W pre = jl s can d k W pre
  | 0, _, _, _ => rfl
  | d + 1, k, W, pre => by
    have e : pg (perS s ws) k = pg s k := rfl
    have e2 : nOf (perS s ws) can k W = nOf s can k W := rfl
    simp only [jl, e, e2, per_jl d]
theorem per_spT (hp : ws.Perm s.ws) {far : Int} {l : List Int} : ∀ k : Nat, spT far (perS s ws) l k = spT far s l k
  | 0 => rfl
  | k + 1 => by
    have ih := per_spT hp (far := far) (l := l) k
    simp only [spT, sp1, ih, per_lo hp]
theorem per_su (hp : ws.Perm s.ws) : su (perS s ws) (aW (perS s ws)) = su s (aW s) := by
  unfold su
  refine arr_ext fun i _ => ?_
  unfold suF
  have e : loW (perS s ws) (aW (perS s ws)) i = loW s (aW s) i := per_lo hp i
  rw [e]
theorem per_divide (hp : ws.Perm s.ws) : rDivide (perS s ws) = rDivide s := by
  have e1 : valD (perS s ws) = valD s := funext fun l => per_spT hp l.length
  have e2 : jls (perS s ws) (su (perS s ws) (aW (perS s ws))) = jls s (su s (aW s)) := by rw [per_su hp]; exact per_jl _ _ _ _
  unfold rDivide
  rw [per_kn hp, e1, e2]
theorem per_bold (hp : ws.Perm s.ws) : rBold (perS s ws) = rBold s := by
  have e1 : cnt (perS s ws) = cnt s := funext fun l => per_cnt hp l
  have e2 : jls (perS s ws) (canB (perS s ws)) = jls s (canB s) := per_jl _ _ _ _
  unfold rBold
  rw [per_kn hp, e1, e2]
end
def rotT (ws : List (List Int)) (f k : Nat) : List (List Int) := (List.range ws.length).map fun j => if j < k then (ws[(j + f) % ws.length]?).getD [] else (ws[j]?).getD []
theorem rotT_len {ws : List (List Int)} {f k : Nat} : (rotT ws f k).length = ws.length := by simp [rotT]
theorem rotT_get {ws : List (List Int)} {f k j : Nat} (h : j < ws.length) : (rotT ws f k)[j]? = some (if j < k then (ws[(j + f) % ws.length]?).getD [] else (ws[j]?).getD []) := by
  unfold rotT
  rw [List.getElem?_map, List.getElem?_range h]; rfl
theorem rotT_zero {ws : List (List Int)} {f : Nat} : rotT ws f 0 = ws := by
  apply List.ext_getElem?
  intro j
  rcases Nat.lt_or_ge j ws.length with h | h
  · rw [rotT_get h]; simp [h]
  · rw [List.getElem?_eq_none (by rw [rotT_len]; exact h), List.getElem?_eq_none h]
theorem rotT_succ {ws : List (List Int)} {f k : Nat} {w : List Int} (hk : k < ws.length) (hw : ws[(k + f) % ws.length]? = some w) : (rotT ws f k).set k w = rotT ws f (k + 1) := by
  apply List.ext_getElem?
  intro j
  rw [List.getElem?_set]
  by_cases he : k = j
  · subst he
    rw [if_pos rfl, rotT_len, if_pos hk, rotT_get hk, if_pos (by omega), hw]; rfl
  · rw [if_neg he]
    rcases Nat.lt_or_ge j ws.length with h | h
    · rw [rotT_get h, rotT_get h]
      by_cases h3 : j < k
      · rw [if_pos h3, if_pos (by omega)]
      · rw [if_neg h3, if_neg (by omega)]
    · rw [List.getElem?_eq_none (by rw [rotT_len]; exact h), List.getElem?_eq_none (by rw [rotT_len]; exact h)]
theorem rotT_all {ws : List (List Int)} {f : Nat} : rotT ws f ws.length = ws.drop (f % ws.length) ++ ws.take (f % ws.length) := by
  apply List.ext_getElem?
  intro j
  rcases Nat.lt_or_ge j ws.length with h | h
  · have hk := Nat.mod_lt f (show 0 < ws.length by omega)
    have hm : (j + f) % ws.length = if j + f % ws.length < ws.length then j + f % ws.length else j + f % ws.length - ws.length := by
      rw [Nat.add_mod, Nat.mod_eq_of_lt h]
      split
      · rename_i q; exact Nat.mod_eq_of_lt q
      · rename_i q
        rw [Nat.mod_eq_sub_mod (by omega), Nat.mod_eq_of_lt (by omega)]
    rw [rotT_get h, if_pos h, hm]
    generalize f % ws.length = k at hk
    split
    · rename_i q
      rw [List.getElem?_append_left (by rw [List.length_drop]; omega), List.getElem?_drop, Nat.add_comm k j]
      simp [q]
    · rename_i q
      rw [List.getElem?_append_right (by rw [List.length_drop]; omega), List.length_drop, List.getElem?_take_of_lt (by omega), show j + k - ws.length = j - (ws.length - k) from by omega]
      rw [List.getElem?_eq_getElem (by omega)]; rfl
  · rw [List.getElem?_eq_none (by rw [rotT_len]; exact h), List.getElem?_eq_none (by simp; omega)]
theorem rotT_perm {ws : List (List Int)} {f : Nat} : (rotT ws f ws.length).Perm ws := by
  rw [rotT_all]
  exact List.perm_append_comm.trans (List.Perm.of_eq (List.take_append_drop _ _))
abbrev r1C (s : Shop) : List AV := [.row 3 s.ms.length, .row 6 s.ws.length, .row 4 s.wt.length, .int .i64 s.fr]
abbrev rH (s : Shop) (f j : Nat) : Heap := [.box 26 (cS s) false, .box 26 (cS s) false, .box 26 (r1C s) false, .row 51 3 (s.ms.map encD) false, .row 3 1 (s.wt.map encN) false, .box 26 (r1C s) false, .row 24 1 ((rotT s.ws f j).map encW) false, .box 26 (r1C s) false]
set_option maxHeartbeats 4000000 in
theorem c9 (s : Shop) (f : Int) (l : List Int) : PC Try.prog 9 [hS s, .int .i64 f, lN l] (.bool true) := by
  have h32 := c32 s
  by_cases hv : ¬ valid s
  · rw [decide_eq_false hv] at h32
    refine PC.body Try.func9 (by kernel_rfl) rfl (by simp [Try.f9]) rfl ?_
    simp only [Try.f9]
    intro hlen
    simp only [go_sem, List.length_map, and_true, true_and] at hlen
    refine CV.run ?_
    (repeat' (first | ((first | with_reducible refine vcG_split ?_ ?_ | with_reducible refine vcIf_split ?_ ?_ | with_reducible refine vcQ_split ?_ ?_ | with_reducible refine vcDG_split ?_ ?_) <;> intro hb <;> (try rw [hb]) <;> (try simp only [Bool.and_eq_true, Bool.or_eq_true, dtrue, dfalse, Bool.not_eq_true', Bool.not_eq_false', Bool.and_eq_false_iff, Bool.or_eq_false_iff, Bool.not_true, Bool.not_false] at hb) <;> (try simp only [within] at hb) <;> try (simp only [go_sem])) | refine And.intro (by (first | exact trivial | (simp only [I64]; omega) | omega)) ?_ | (with_reducible rw [vc_draw_eq]; first | refine CV.draw (id := 7) [(0, 1), (0, 1), (0, 1), (0, 0), (0, 0), (0, 0), (0, 0), (0, 0), (0, 0), (0, 0), (0, 0), (0, 0), (0, 0), (0, 0), (0, 0), (99, 0), (1, 1), (0, 0)] mixed rfl (by kernel_rfl) ?_ | refine CV.draw (id := 18) [(0, 1), (0, 0), (0, 0), (0, 0), (1, 1), (1, 1), (1, 1), (1, 2), (0, 1), (0, 0), (2, 2)] mixed rfl (by kernel_rfl) ?_ | refine CV.draw (id := 19) [(0, 1), (0, 0), (0, 0), (0, 0), (1, 1), (1, 1), (1, 1), (1, 2), (0, 1), (0, 0), (2, 2)] mixed rfl (by kernel_rfl) ?_) | (first | (refine vcP_pure (h32) rfl ?_ ?_ ?_; (focus (first | rfl | ((simp only [go_sem, AV.pureL, AV.pure, pureL_mapI, Bool.and_self]) <;> fail))); (focus (first | ((simp only [go_sem]) <;> fail) | rfl))) | (refine dCallP_pure (h32) rfl ?_ ?_ ?_; (focus (first | rfl | ((simp only [go_sem, AV.pureL, AV.pure, pureL_mapI, Bool.and_self]) <;> fail))); (focus (first | ((simp only [go_sem]) <;> fail) | rfl))) | refine vcP_safe (h32) rfl rfl (by (simp only [go_sem])) ?_ | refine dCallP_safe (h32) rfl rfl ?_ | (refine vcP_pure (c17) rfl ?_ ?_ ?_; (focus (first | rfl | ((simp only [go_sem, AV.pureL, AV.pure, pureL_mapI, Bool.and_self]) <;> fail))); (focus (first | ((simp only [go_sem]) <;> fail) | rfl))) | (refine dCallP_pure (c17) rfl ?_ ?_ ?_; (focus (first | rfl | ((simp only [go_sem, AV.pureL, AV.pure, pureL_mapI, Bool.and_self]) <;> fail))); (focus (first | ((simp only [go_sem]) <;> fail) | rfl))) | refine vcP_safe (c17) rfl rfl (by (simp only [go_sem])) ?_ | refine dCallP_safe (c17) rfl rfl ?_) | (simp only [go_sem])))
  have hv := Classical.not_not.1 hv
  rw [decide_eq_true hv] at h32
  by_cases h0 : f < 0
  · skip
    refine PC.body Try.func9 (by kernel_rfl) rfl (by simp [Try.f9]) rfl ?_
    simp only [Try.f9]
    intro hlen
    simp only [go_sem, List.length_map, and_true, true_and] at hlen
    refine CV.run ?_
    (repeat' (first | ((first | with_reducible refine vcG_split ?_ ?_ | with_reducible refine vcIf_split ?_ ?_ | with_reducible refine vcQ_split ?_ ?_ | with_reducible refine vcDG_split ?_ ?_) <;> intro hb <;> (try rw [hb]) <;> (try simp only [Bool.and_eq_true, Bool.or_eq_true, dtrue, dfalse, Bool.not_eq_true', Bool.not_eq_false', Bool.and_eq_false_iff, Bool.or_eq_false_iff, Bool.not_true, Bool.not_false] at hb) <;> (try simp only [within] at hb) <;> try (simp only [go_sem, h0])) | refine And.intro (by (first | exact trivial | (simp only [I64]; omega) | omega)) ?_ | (with_reducible rw [vc_draw_eq]; first | refine CV.draw (id := 7) [(0, 1), (0, 1), (0, 1), (0, 0), (0, 0), (0, 0), (0, 0), (0, 0), (0, 0), (0, 0), (0, 0), (0, 0), (0, 0), (0, 0), (0, 0), (99, 0), (1, 1), (0, 0)] mixed rfl (by kernel_rfl) ?_ | refine CV.draw (id := 18) [(0, 1), (0, 0), (0, 0), (0, 0), (1, 1), (1, 1), (1, 1), (1, 2), (0, 1), (0, 0), (2, 2)] mixed rfl (by kernel_rfl) ?_ | refine CV.draw (id := 19) [(0, 1), (0, 0), (0, 0), (0, 0), (1, 1), (1, 1), (1, 1), (1, 2), (0, 1), (0, 0), (2, 2)] mixed rfl (by kernel_rfl) ?_) | (first | (refine vcP_pure (h32) rfl ?_ ?_ ?_; (focus (first | rfl | ((simp only [go_sem, h0, AV.pureL, AV.pure, pureL_mapI, Bool.and_self]) <;> fail))); (focus (first | ((simp only [go_sem, h0]) <;> fail) | rfl))) | (refine dCallP_pure (h32) rfl ?_ ?_ ?_; (focus (first | rfl | ((simp only [go_sem, h0, AV.pureL, AV.pure, pureL_mapI, Bool.and_self]) <;> fail))); (focus (first | ((simp only [go_sem, h0]) <;> fail) | rfl))) | refine vcP_safe (h32) rfl rfl (by (simp only [go_sem, h0])) ?_ | refine dCallP_safe (h32) rfl rfl ?_ | (refine vcP_pure (c17) rfl ?_ ?_ ?_; (focus (first | rfl | ((simp only [go_sem, h0, AV.pureL, AV.pure, pureL_mapI, Bool.and_self]) <;> fail))); (focus (first | ((simp only [go_sem, h0]) <;> fail) | rfl))) | (refine dCallP_pure (c17) rfl ?_ ?_ ?_; (focus (first | rfl | ((simp only [go_sem, h0, AV.pureL, AV.pure, pureL_mapI, Bool.and_self]) <;> fail))); (focus (first | ((simp only [go_sem, h0]) <;> fail) | rfl))) | refine vcP_safe (c17) rfl rfl (by (simp only [go_sem, h0])) ?_ | refine dCallP_safe (c17) rfl rfl ?_) | (simp only [go_sem, h0])))
  by_cases h100 : 100 < f
  · skip
    refine PC.body Try.func9 (by kernel_rfl) rfl (by simp [Try.f9]) rfl ?_
    simp only [Try.f9]
    intro hlen
    simp only [go_sem, List.length_map, and_true, true_and] at hlen
    refine CV.run ?_
    (repeat' (first | ((first | with_reducible refine vcG_split ?_ ?_ | with_reducible refine vcIf_split ?_ ?_ | with_reducible refine vcQ_split ?_ ?_ | with_reducible refine vcDG_split ?_ ?_) <;> intro hb <;> (try rw [hb]) <;> (try simp only [Bool.and_eq_true, Bool.or_eq_true, dtrue, dfalse, Bool.not_eq_true', Bool.not_eq_false', Bool.and_eq_false_iff, Bool.or_eq_false_iff, Bool.not_true, Bool.not_false] at hb) <;> (try simp only [within] at hb) <;> try (simp only [go_sem, h0, h100])) | refine And.intro (by (first | exact trivial | (simp only [I64]; omega) | omega)) ?_ | (with_reducible rw [vc_draw_eq]; first | refine CV.draw (id := 7) [(0, 1), (0, 1), (0, 1), (0, 0), (0, 0), (0, 0), (0, 0), (0, 0), (0, 0), (0, 0), (0, 0), (0, 0), (0, 0), (0, 0), (0, 0), (99, 0), (1, 1), (0, 0)] mixed rfl (by kernel_rfl) ?_ | refine CV.draw (id := 18) [(0, 1), (0, 0), (0, 0), (0, 0), (1, 1), (1, 1), (1, 1), (1, 2), (0, 1), (0, 0), (2, 2)] mixed rfl (by kernel_rfl) ?_ | refine CV.draw (id := 19) [(0, 1), (0, 0), (0, 0), (0, 0), (1, 1), (1, 1), (1, 1), (1, 2), (0, 1), (0, 0), (2, 2)] mixed rfl (by kernel_rfl) ?_) | (first | (refine vcP_pure (h32) rfl ?_ ?_ ?_; (focus (first | rfl | ((simp only [go_sem, h0, h100, AV.pureL, AV.pure, pureL_mapI, Bool.and_self]) <;> fail))); (focus (first | ((simp only [go_sem, h0, h100]) <;> fail) | rfl))) | (refine dCallP_pure (h32) rfl ?_ ?_ ?_; (focus (first | rfl | ((simp only [go_sem, h0, h100, AV.pureL, AV.pure, pureL_mapI, Bool.and_self]) <;> fail))); (focus (first | ((simp only [go_sem, h0, h100]) <;> fail) | rfl))) | refine vcP_safe (h32) rfl rfl (by (simp only [go_sem, h0, h100])) ?_ | refine dCallP_safe (h32) rfl rfl ?_ | (refine vcP_pure (c17) rfl ?_ ?_ ?_; (focus (first | rfl | ((simp only [go_sem, h0, h100, AV.pureL, AV.pure, pureL_mapI, Bool.and_self]) <;> fail))); (focus (first | ((simp only [go_sem, h0, h100]) <;> fail) | rfl))) | (refine dCallP_pure (c17) rfl ?_ ?_ ?_; (focus (first | rfl | ((simp only [go_sem, h0, h100, AV.pureL, AV.pure, pureL_mapI, Bool.and_self]) <;> fail))); (focus (first | ((simp only [go_sem, h0, h100]) <;> fail) | rfl))) | refine vcP_safe (c17) rfl rfl (by (simp only [go_sem, h0, h100])) ?_ | refine dCallP_safe (c17) rfl rfl ?_) | (simp only [go_sem, h0, h100])))
  by_cases h1 : 40 < l.length
  · have h1' : (40 : Int) < l.length := by omega
    refine PC.body Try.func9 (by kernel_rfl) rfl (by simp [Try.f9]) rfl ?_
    simp only [Try.f9]
    intro hlen
    simp only [go_sem, List.length_map, and_true, true_and] at hlen
    refine CV.run ?_
    (repeat' (first | ((first | with_reducible refine vcG_split ?_ ?_ | with_reducible refine vcIf_split ?_ ?_ | with_reducible refine vcQ_split ?_ ?_ | with_reducible refine vcDG_split ?_ ?_) <;> intro hb <;> (try rw [hb]) <;> (try simp only [Bool.and_eq_true, Bool.or_eq_true, dtrue, dfalse, Bool.not_eq_true', Bool.not_eq_false', Bool.and_eq_false_iff, Bool.or_eq_false_iff, Bool.not_true, Bool.not_false] at hb) <;> (try simp only [within] at hb) <;> try (simp only [go_sem, h0, h100, h1'])) | refine And.intro (by (first | exact trivial | (simp only [I64]; omega) | omega)) ?_ | (with_reducible rw [vc_draw_eq]; first | refine CV.draw (id := 7) [(0, 1), (0, 1), (0, 1), (0, 0), (0, 0), (0, 0), (0, 0), (0, 0), (0, 0), (0, 0), (0, 0), (0, 0), (0, 0), (0, 0), (0, 0), (99, 0), (1, 1), (0, 0)] mixed rfl (by kernel_rfl) ?_ | refine CV.draw (id := 18) [(0, 1), (0, 0), (0, 0), (0, 0), (1, 1), (1, 1), (1, 1), (1, 2), (0, 1), (0, 0), (2, 2)] mixed rfl (by kernel_rfl) ?_ | refine CV.draw (id := 19) [(0, 1), (0, 0), (0, 0), (0, 0), (1, 1), (1, 1), (1, 1), (1, 2), (0, 1), (0, 0), (2, 2)] mixed rfl (by kernel_rfl) ?_) | (first | (refine vcP_pure (h32) rfl ?_ ?_ ?_; (focus (first | rfl | ((simp only [go_sem, h0, h100, h1', AV.pureL, AV.pure, pureL_mapI, Bool.and_self]) <;> fail))); (focus (first | ((simp only [go_sem, h0, h100, h1']) <;> fail) | rfl))) | (refine dCallP_pure (h32) rfl ?_ ?_ ?_; (focus (first | rfl | ((simp only [go_sem, h0, h100, h1', AV.pureL, AV.pure, pureL_mapI, Bool.and_self]) <;> fail))); (focus (first | ((simp only [go_sem, h0, h100, h1']) <;> fail) | rfl))) | refine vcP_safe (h32) rfl rfl (by (simp only [go_sem, h0, h100, h1'])) ?_ | refine dCallP_safe (h32) rfl rfl ?_ | (refine vcP_pure (c17) rfl ?_ ?_ ?_; (focus (first | rfl | ((simp only [go_sem, h0, h100, h1', AV.pureL, AV.pure, pureL_mapI, Bool.and_self]) <;> fail))); (focus (first | ((simp only [go_sem, h0, h100, h1']) <;> fail) | rfl))) | (refine dCallP_pure (c17) rfl ?_ ?_ ?_; (focus (first | rfl | ((simp only [go_sem, h0, h100, h1', AV.pureL, AV.pure, pureL_mapI, Bool.and_self]) <;> fail))); (focus (first | ((simp only [go_sem, h0, h100, h1']) <;> fail) | rfl))) | refine vcP_safe (c17) rfl rfl (by (simp only [go_sem, h0, h100, h1'])) ?_ | refine dCallP_safe (c17) rfl rfl ?_) | (simp only [go_sem, h0, h100, h1'])))
  have h1' : ¬ (40 : Int) < l.length := by omega
  obtain ⟨f, rfl⟩ := Int.eq_ofNat_of_zero_le (show 0 ≤ f by omega)
  obtain ⟨hl1, hl2, hl3, hl4⟩ := not_huge hv.small
  refine PC.body Try.func9 (by kernel_rfl) rfl (by simp [Try.f9]) rfl ?_
  simp only [Try.f9]
  intro hlen
  simp only [go_sem, List.length_map, and_true, true_and] at hlen
  refine CV.run ?_
  (repeat' (first | ((first | with_reducible refine vcG_split ?_ ?_ | with_reducible refine vcIf_split ?_ ?_ | with_reducible refine vcQ_split ?_ ?_ | with_reducible refine vcDG_split ?_ ?_) <;> intro hb <;> (try rw [hb]) <;> (try simp only [Bool.and_eq_true, Bool.or_eq_true, dtrue, dfalse, Bool.not_eq_true', Bool.not_eq_false', Bool.and_eq_false_iff, Bool.or_eq_false_iff, Bool.not_true, Bool.not_false] at hb) <;> (try simp only [within] at hb) <;> try (simp only [go_sem, h0, h100, h1'])) | refine And.intro (by (first | exact trivial | (simp only [I64]; omega) | omega)) ?_ | (with_reducible rw [vc_draw_eq]; first | refine CV.draw (id := 7) [(0, 1), (0, 1), (0, 1), (0, 0), (0, 0), (0, 0), (0, 0), (0, 0), (0, 0), (0, 0), (0, 0), (0, 0), (0, 0), (0, 0), (0, 0), (99, 0), (1, 1), (0, 0)] mixed rfl (by kernel_rfl) ?_ | refine CV.draw (id := 18) [(0, 1), (0, 0), (0, 0), (0, 0), (1, 1), (1, 1), (1, 1), (1, 2), (0, 1), (0, 0), (2, 2)] mixed rfl (by kernel_rfl) ?_ | refine CV.draw (id := 19) [(0, 1), (0, 0), (0, 0), (0, 0), (1, 1), (1, 1), (1, 1), (1, 2), (0, 1), (0, 0), (2, 2)] mixed rfl (by kernel_rfl) ?_) | (first | (refine vcP_pure (h32) rfl ?_ ?_ ?_; (focus (first | rfl | ((simp only [go_sem, h0, h100, h1', AV.pureL, AV.pure, pureL_mapI, Bool.and_self]) <;> fail))); (focus (first | ((simp only [go_sem, h0, h100, h1']) <;> fail) | rfl))) | (refine dCallP_pure (h32) rfl ?_ ?_ ?_; (focus (first | rfl | ((simp only [go_sem, h0, h100, h1', AV.pureL, AV.pure, pureL_mapI, Bool.and_self]) <;> fail))); (focus (first | ((simp only [go_sem, h0, h100, h1']) <;> fail) | rfl))) | refine vcP_safe (h32) rfl rfl (by (simp only [go_sem, h0, h100, h1'])) ?_ | refine dCallP_safe (h32) rfl rfl ?_) | (simp only [go_sem, h0, h100, h1'])))
  refine vcP_new (h18 s hv.small) rfl ?_
  (repeat' (first | ((first | with_reducible refine vcG_split ?_ ?_ | with_reducible refine vcIf_split ?_ ?_ | with_reducible refine vcQ_split ?_ ?_ | with_reducible refine vcDG_split ?_ ?_) <;> intro hb <;> (try rw [hb]) <;> (try simp only [Bool.and_eq_true, Bool.or_eq_true, dtrue, dfalse, Bool.not_eq_true', Bool.not_eq_false', Bool.and_eq_false_iff, Bool.or_eq_false_iff, Bool.not_true, Bool.not_false] at hb) <;> (try simp only [within] at hb) <;> try (simp only [go_sem, List.map_cons, List.map_nil, List.cons_append, List.nil_append])) | refine And.intro (by (first | exact trivial | (simp only [I64]; omega) | omega)) ?_ | (with_reducible rw [vc_draw_eq]; first | refine CV.draw (id := 7) [(0, 1), (0, 1), (0, 1), (0, 0), (0, 0), (0, 0), (0, 0), (0, 0), (0, 0), (0, 0), (0, 0), (0, 0), (0, 0), (0, 0), (0, 0), (99, 0), (1, 1), (0, 0)] mixed rfl (by kernel_rfl) ?_ | refine CV.draw (id := 18) [(0, 1), (0, 0), (0, 0), (0, 0), (1, 1), (1, 1), (1, 1), (1, 2), (0, 1), (0, 0), (2, 2)] mixed rfl (by kernel_rfl) ?_ | refine CV.draw (id := 19) [(0, 1), (0, 0), (0, 0), (0, 0), (1, 1), (1, 1), (1, 1), (1, 2), (0, 1), (0, 0), (2, 2)] mixed rfl (by kernel_rfl) ?_) | fail | (simp only [go_sem, List.map_cons, List.map_nil, List.cons_append, List.nil_append])))
  refine vc_for (fun j => ⟨[(8, .int .i64 j), (7, .lp 7 0), (6, .bool false), (3, .lp 0 0), (2, lN l), (1, .int .i64 f)], rH s f j⟩) s.ws.length (fun _ => True) (by (first | exact wk_same (by (simp only [go_sem, Int.natCast_add, Int.natCast_one, Int.natCast_zero, Int.cast_ofNat_Int, rotT_zero])) | exact wk_drop (by (simp only [go_sem, Int.natCast_add, Int.natCast_one, Int.natCast_zero, Int.cast_ofNat_Int, rotT_zero])) (by (simp only [go_sem, Int.natCast_add, Int.natCast_one, Int.natCast_zero, Int.cast_ofNat_Int, rotT_zero])) (by (simp only [go_sem, Int.natCast_add, Int.natCast_one, Int.natCast_zero, Int.cast_ofNat_Int, rotT_zero])) (by (simp only [go_sem, Int.natCast_add, Int.natCast_one, Int.natCast_zero, Int.cast_ofNat_Int, rotT_zero])) (by (simp only [go_sem, Int.natCast_add, Int.natCast_one, Int.natCast_zero, Int.cast_ofNat_Int, rotT_zero])))) trivial ?_
  intro j hj _
  rcases Nat.lt_or_ge j s.ws.length with hlt | hge
  · have hmod := Nat.mod_lt (j + f) (show 0 < s.ws.length by omega)
    obtain ⟨w, hw⟩ := get_of hmod
    have hlt' : (j : Int) < s.ws.length := by omega
    have hwl := hl4 w (List.mem_of_getElem? hw)
    have hs := rotT_succ hlt hw
    obtain ⟨v, hrj⟩ := get_of (l := rotT s.ws f j) (j := j) (by rw [rotT_len]; exact hlt)
    have hc : ((j : Int) + f) % s.ws.length = (((j + f) % s.ws.length : Nat) : Int) := by simp
    have hc2 : (0 : Int) ≤ (((j + f) % s.ws.length : Nat) : Int) := by omega
    have hc3 : (((j + f) % s.ws.length : Nat) : Int) < s.ws.length := by omega
    have hs2 : ((rotT s.ws f j).map encW).set j [lN w] = (rotT s.ws f (j + 1)).map encW := by
      rw [← hs, List.map_set]; simp [encW]
    (repeat' (first | ((first | with_reducible refine vcG_split ?_ ?_ | with_reducible refine vcIf_split ?_ ?_ | with_reducible refine vcQ_split ?_ ?_ | with_reducible refine vcDG_split ?_ ?_) <;> intro hb <;> (try rw [hb]) <;> (try simp only [Bool.and_eq_true, Bool.or_eq_true, dtrue, dfalse, Bool.not_eq_true', Bool.not_eq_false', Bool.and_eq_false_iff, Bool.or_eq_false_iff, Bool.not_true, Bool.not_false] at hb) <;> (try simp only [within] at hb) <;> try (simp only [go_sem, hlt', hc, hc2, hc3, hw, encW, rotT_len, List.length_map, false_and, if_false])) | refine And.intro (by (first | exact trivial | (simp only [I64]; omega) | omega)) ?_ | (with_reducible rw [vc_draw_eq]; first | refine CV.draw (id := 7) [(0, 1), (0, 1), (0, 1), (0, 0), (0, 0), (0, 0), (0, 0), (0, 0), (0, 0), (0, 0), (0, 0), (0, 0), (0, 0), (0, 0), (0, 0), (99, 0), (1, 1), (0, 0)] mixed rfl (by kernel_rfl) ?_ | refine CV.draw (id := 18) [(0, 1), (0, 0), (0, 0), (0, 0), (1, 1), (1, 1), (1, 1), (1, 2), (0, 1), (0, 0), (2, 2)] mixed rfl (by kernel_rfl) ?_ | refine CV.draw (id := 19) [(0, 1), (0, 0), (0, 0), (0, 0), (1, 1), (1, 1), (1, 1), (1, 2), (0, 1), (0, 0), (2, 2)] mixed rfl (by kernel_rfl) ?_) | fail | (simp only [go_sem, hlt', hc, hc2, hc3, hw, encW, rotT_len, List.length_map, false_and, if_false])))
    refine ⟨⟨by omega, by omega, .inl trivial⟩, by omega, hlt, ⟨by omega, by omega⟩, hlt, ?_⟩
    (first | exact wk_same (by (simp only [go_sem, Int.natCast_add, Int.natCast_one, Int.natCast_zero, Int.cast_ofNat_Int, hs2, hrj, encW, Option.map_some, Option.getD_some, List.drop_succ_cons, List.drop_zero])) | exact wk_drop (by (simp only [go_sem, Int.natCast_add, Int.natCast_one, Int.natCast_zero, Int.cast_ofNat_Int, hs2, hrj, encW, Option.map_some, Option.getD_some, List.drop_succ_cons, List.drop_zero])) (by (simp only [go_sem, Int.natCast_add, Int.natCast_one, Int.natCast_zero, Int.cast_ofNat_Int, hs2, hrj, encW, Option.map_some, Option.getD_some, List.drop_succ_cons, List.drop_zero])) (by (simp only [go_sem, Int.natCast_add, Int.natCast_one, Int.natCast_zero, Int.cast_ofNat_Int, hs2, hrj, encW, Option.map_some, Option.getD_some, List.drop_succ_cons, List.drop_zero])) (by (simp only [go_sem, Int.natCast_add, Int.natCast_one, Int.natCast_zero, Int.cast_ofNat_Int, hs2, hrj, encW, Option.map_some, Option.getD_some, List.drop_succ_cons, List.drop_zero])) (by (simp only [go_sem, Int.natCast_add, Int.natCast_one, Int.natCast_zero, Int.cast_ofNat_Int, hs2, hrj, encW, Option.map_some, Option.getD_some, List.drop_succ_cons, List.drop_zero])))
  have hge' : ¬ (j : Int) < s.ws.length := by omega
  have : j = s.ws.length := by omega
  subst this
  have hp : (rotT s.ws f s.ws.length).Perm s.ws := rotT_perm
  have hrl : (rotT s.ws f s.ws.length).length = s.ws.length := rotT_len
  have h23 := c23 s
  have g23 := c23 (perS s (rotT s.ws f s.ws.length))
  have h24 := c24 s
  have g24 := c24 (perS s (rotT s.ws f s.ws.length))
  have h50 := c50 s
  have g50 := c50 (perS s (rotT s.ws f s.ws.length))
  have h38 := c38 s
  have g38 := c38 (perS s (rotT s.ws f s.ws.length))
  have h47 := c47 s l
  have g47 := c47 (perS s (rotT s.ws f s.ws.length)) l
  rw [per_divide hp] at g23
  rw [per_bold hp] at g24
  rw [per_test hp] at g50
  rw [per_new hp] at g38
  rw [per_chance hp] at g47
  have h49 := c49 (rDivide s).1 (rDivide s).1
  have h49b := c49 (rBold s).1 (rBold s).1
  rw [decide_eq_true rfl] at h49 h49b
  (repeat' (first | ((first | with_reducible refine vcG_split ?_ ?_ | with_reducible refine vcIf_split ?_ ?_ | with_reducible refine vcQ_split ?_ ?_ | with_reducible refine vcDG_split ?_ ?_) <;> intro hb <;> (try rw [hb]) <;> (try simp only [Bool.and_eq_true, Bool.or_eq_true, dtrue, dfalse, Bool.not_eq_true', Bool.not_eq_false', Bool.and_eq_false_iff, Bool.or_eq_false_iff, Bool.not_true, Bool.not_false] at hb) <;> (try simp only [within] at hb) <;> try (simp only [go_sem, hge', hrl, List.length_map, false_and, if_false])) | refine And.intro (by (first | exact trivial | (simp only [I64]; omega) | omega)) ?_ | (with_reducible rw [vc_draw_eq]; first | refine CV.draw (id := 7) [(0, 1), (0, 1), (0, 1), (0, 0), (0, 0), (0, 0), (0, 0), (0, 0), (0, 0), (0, 0), (0, 0), (0, 0), (0, 0), (0, 0), (0, 0), (99, 0), (1, 1), (0, 0)] mixed rfl (by kernel_rfl) ?_ | refine CV.draw (id := 18) [(0, 1), (0, 0), (0, 0), (0, 0), (1, 1), (1, 1), (1, 1), (1, 2), (0, 1), (0, 0), (2, 2)] mixed rfl (by kernel_rfl) ?_ | refine CV.draw (id := 19) [(0, 1), (0, 0), (0, 0), (0, 0), (1, 1), (1, 1), (1, 1), (1, 2), (0, 1), (0, 0), (2, 2)] mixed rfl (by kernel_rfl) ?_) | (first | (refine vcP_pure (h23) rfl ?_ ?_ ?_; (focus (first | rfl | ((simp only [go_sem, hge', hrl, List.length_map, false_and, if_false, AV.pureL, AV.pure, pureL_mapI, Bool.and_self]) <;> fail))); (focus (first | ((simp only [go_sem, hge', hrl, List.length_map, false_and, if_false]) <;> fail) | rfl))) | (refine dCallP_pure (h23) rfl ?_ ?_ ?_; (focus (first | rfl | ((simp only [go_sem, hge', hrl, List.length_map, false_and, if_false, AV.pureL, AV.pure, pureL_mapI, Bool.and_self]) <;> fail))); (focus (first | ((simp only [go_sem, hge', hrl, List.length_map, false_and, if_false]) <;> fail) | rfl))) | refine vcP_safe (h23) rfl rfl (by (simp only [go_sem, hge', hrl, List.length_map, false_and, if_false])) ?_ | refine dCallP_safe (h23) rfl rfl ?_ | refine vcP_row (args' := []) 3 rfl (by (simp only [go_sem, hge', hrl, List.length_map, false_and, if_false])) (vcP_row (args' := []) 6 rfl (by (simp only [go_sem, hge', hrl, List.length_map, false_and, if_false])) (vcP_row 4 rfl (by (simp only [go_sem, hge', hrl, List.length_map, false_and, if_false])) (vcP_pure (g23) rfl (by first | rfl | (simp only [go_sem, hge', hrl, List.length_map, false_and, if_false, AV.pureL, AV.pure, Bool.and_self, false_and, if_false])) (by (simp only [go_sem, hge', hrl, List.length_map, false_and, if_false, false_and, if_false])) ?_))) | (refine vcP_pure (h24) rfl ?_ ?_ ?_; (focus (first | rfl | ((simp only [go_sem, hge', hrl, List.length_map, false_and, if_false, AV.pureL, AV.pure, pureL_mapI, Bool.and_self]) <;> fail))); (focus (first | ((simp only [go_sem, hge', hrl, List.length_map, false_and, if_false]) <;> fail) | rfl))) | (refine dCallP_pure (h24) rfl ?_ ?_ ?_; (focus (first | rfl | ((simp only [go_sem, hge', hrl, List.length_map, false_and, if_false, AV.pureL, AV.pure, pureL_mapI, Bool.and_self]) <;> fail))); (focus (first | ((simp only [go_sem, hge', hrl, List.length_map, false_and, if_false]) <;> fail) | rfl))) | refine vcP_safe (h24) rfl rfl (by (simp only [go_sem, hge', hrl, List.length_map, false_and, if_false])) ?_ | refine dCallP_safe (h24) rfl rfl ?_ | (refine vcP_pure (g24) rfl ?_ ?_ ?_; (focus (first | rfl | ((simp only [go_sem, hge', hrl, List.length_map, false_and, if_false, AV.pureL, AV.pure, pureL_mapI, Bool.and_self]) <;> fail))); (focus (first | ((simp only [go_sem, hge', hrl, List.length_map, false_and, if_false]) <;> fail) | rfl))) | (refine dCallP_pure (g24) rfl ?_ ?_ ?_; (focus (first | rfl | ((simp only [go_sem, hge', hrl, List.length_map, false_and, if_false, AV.pureL, AV.pure, pureL_mapI, Bool.and_self]) <;> fail))); (focus (first | ((simp only [go_sem, hge', hrl, List.length_map, false_and, if_false]) <;> fail) | rfl))) | refine vcP_safe (g24) rfl rfl (by (simp only [go_sem, hge', hrl, List.length_map, false_and, if_false])) ?_ | refine dCallP_safe (g24) rfl rfl ?_ | (refine vcP_pure (h49) rfl ?_ ?_ ?_; (focus (first | rfl | ((simp only [go_sem, hge', hrl, List.length_map, false_and, if_false, AV.pureL, AV.pure, pureL_mapI, Bool.and_self]) <;> fail))); (focus (first | ((simp only [go_sem, hge', hrl, List.length_map, false_and, if_false]) <;> fail) | rfl))) | (refine dCallP_pure (h49) rfl ?_ ?_ ?_; (focus (first | rfl | ((simp only [go_sem, hge', hrl, List.length_map, false_and, if_false, AV.pureL, AV.pure, pureL_mapI, Bool.and_self]) <;> fail))); (focus (first | ((simp only [go_sem, hge', hrl, List.length_map, false_and, if_false]) <;> fail) | rfl))) | refine vcP_safe (h49) rfl rfl (by (simp only [go_sem, hge', hrl, List.length_map, false_and, if_false])) ?_ | refine dCallP_safe (h49) rfl rfl ?_ | (refine vcP_pure (h49b) rfl ?_ ?_ ?_; (focus (first | rfl | ((simp only [go_sem, hge', hrl, List.length_map, false_and, if_false, AV.pureL, AV.pure, pureL_mapI, Bool.and_self]) <;> fail))); (focus (first | ((simp only [go_sem, hge', hrl, List.length_map, false_and, if_false]) <;> fail) | rfl))) | (refine dCallP_pure (h49b) rfl ?_ ?_ ?_; (focus (first | rfl | ((simp only [go_sem, hge', hrl, List.length_map, false_and, if_false, AV.pureL, AV.pure, pureL_mapI, Bool.and_self]) <;> fail))); (focus (first | ((simp only [go_sem, hge', hrl, List.length_map, false_and, if_false]) <;> fail) | rfl))) | refine vcP_safe (h49b) rfl rfl (by (simp only [go_sem, hge', hrl, List.length_map, false_and, if_false])) ?_ | refine dCallP_safe (h49b) rfl rfl ?_ | (refine vcP_pure (h50) rfl ?_ ?_ ?_; (focus (first | rfl | ((simp only [go_sem, hge', hrl, List.length_map, false_and, if_false, AV.pureL, AV.pure, pureL_mapI, Bool.and_self]) <;> fail))); (focus (first | ((simp only [go_sem, hge', hrl, List.length_map, false_and, if_false]) <;> fail) | rfl))) | (refine dCallP_pure (h50) rfl ?_ ?_ ?_; (focus (first | rfl | ((simp only [go_sem, hge', hrl, List.length_map, false_and, if_false, AV.pureL, AV.pure, pureL_mapI, Bool.and_self]) <;> fail))); (focus (first | ((simp only [go_sem, hge', hrl, List.length_map, false_and, if_false]) <;> fail) | rfl))) | refine vcP_safe (h50) rfl rfl (by (simp only [go_sem, hge', hrl, List.length_map, false_and, if_false])) ?_ | refine dCallP_safe (h50) rfl rfl ?_ | (refine vcP_pure (g50) rfl ?_ ?_ ?_; (focus (first | rfl | ((simp only [go_sem, hge', hrl, List.length_map, false_and, if_false, AV.pureL, AV.pure, pureL_mapI, Bool.and_self]) <;> fail))); (focus (first | ((simp only [go_sem, hge', hrl, List.length_map, false_and, if_false]) <;> fail) | rfl))) | (refine dCallP_pure (g50) rfl ?_ ?_ ?_; (focus (first | rfl | ((simp only [go_sem, hge', hrl, List.length_map, false_and, if_false, AV.pureL, AV.pure, pureL_mapI, Bool.and_self]) <;> fail))); (focus (first | ((simp only [go_sem, hge', hrl, List.length_map, false_and, if_false]) <;> fail) | rfl))) | refine vcP_safe (g50) rfl rfl (by (simp only [go_sem, hge', hrl, List.length_map, false_and, if_false])) ?_ | refine dCallP_safe (g50) rfl rfl ?_ | (refine vcP_pure (h38) rfl ?_ ?_ ?_; (focus (first | rfl | ((simp only [go_sem, hge', hrl, List.length_map, false_and, if_false, AV.pureL, AV.pure, pureL_mapI, Bool.and_self]) <;> fail))); (focus (first | ((simp only [go_sem, hge', hrl, List.length_map, false_and, if_false]) <;> fail) | rfl))) | (refine dCallP_pure (h38) rfl ?_ ?_ ?_; (focus (first | rfl | ((simp only [go_sem, hge', hrl, List.length_map, false_and, if_false, AV.pureL, AV.pure, pureL_mapI, Bool.and_self]) <;> fail))); (focus (first | ((simp only [go_sem, hge', hrl, List.length_map, false_and, if_false]) <;> fail) | rfl))) | refine vcP_safe (h38) rfl rfl (by (simp only [go_sem, hge', hrl, List.length_map, false_and, if_false])) ?_ | refine dCallP_safe (h38) rfl rfl ?_ | (refine vcP_pure (g38) rfl ?_ ?_ ?_; (focus (first | rfl | ((simp only [go_sem, hge', hrl, List.length_map, false_and, if_false, AV.pureL, AV.pure, pureL_mapI, Bool.and_self]) <;> fail))); (focus (first | ((simp only [go_sem, hge', hrl, List.length_map, false_and, if_false]) <;> fail) | rfl))) | (refine dCallP_pure (g38) rfl ?_ ?_ ?_; (focus (first | rfl | ((simp only [go_sem, hge', hrl, List.length_map, false_and, if_false, AV.pureL, AV.pure, pureL_mapI, Bool.and_self]) <;> fail))); (focus (first | ((simp only [go_sem, hge', hrl, List.length_map, false_and, if_false]) <;> fail) | rfl))) | refine vcP_safe (g38) rfl rfl (by (simp only [go_sem, hge', hrl, List.length_map, false_and, if_false])) ?_ | refine dCallP_safe (g38) rfl rfl ?_) | (simp only [go_sem, hge', hrl, List.length_map, false_and, if_false])))
  refine ⟨⟨by omega, by omega, .inl trivial⟩, ?_⟩
  (repeat' (first | ((first | with_reducible refine vcG_split ?_ ?_ | with_reducible refine vcIf_split ?_ ?_ | with_reducible refine vcQ_split ?_ ?_ | with_reducible refine vcDG_split ?_ ?_) <;> intro hb <;> (try rw [hb]) <;> (try simp only [Bool.and_eq_true, Bool.or_eq_true, dtrue, dfalse, Bool.not_eq_true', Bool.not_eq_false', Bool.and_eq_false_iff, Bool.or_eq_false_iff, Bool.not_true, Bool.not_false] at hb) <;> (try simp only [within] at hb) <;> try (simp only [go_sem, List.nil_append, false_and, if_false])) | refine And.intro (by (first | exact trivial | (simp only [I64]; omega) | omega)) ?_ | (with_reducible rw [vc_draw_eq]; first | refine CV.draw (id := 7) [(0, 1), (0, 1), (0, 1), (0, 0), (0, 0), (0, 0), (0, 0), (0, 0), (0, 0), (0, 0), (0, 0), (0, 0), (0, 0), (0, 0), (0, 0), (99, 0), (1, 1), (0, 0)] mixed rfl (by kernel_rfl) ?_ | refine CV.draw (id := 18) [(0, 1), (0, 0), (0, 0), (0, 0), (1, 1), (1, 1), (1, 1), (1, 2), (0, 1), (0, 0), (2, 2)] mixed rfl (by kernel_rfl) ?_ | refine CV.draw (id := 19) [(0, 1), (0, 0), (0, 0), (0, 0), (1, 1), (1, 1), (1, 1), (1, 2), (0, 1), (0, 0), (2, 2)] mixed rfl (by kernel_rfl) ?_) | (first | (refine vcP_pure (h47) rfl ?_ ?_ ?_; (focus (first | rfl | ((simp only [go_sem, List.nil_append, false_and, if_false, AV.pureL, AV.pure, pureL_mapI, Bool.and_self]) <;> fail))); (focus (first | ((simp only [go_sem, List.nil_append, false_and, if_false]) <;> fail) | rfl))) | (refine dCallP_pure (h47) rfl ?_ ?_ ?_; (focus (first | rfl | ((simp only [go_sem, List.nil_append, false_and, if_false, AV.pureL, AV.pure, pureL_mapI, Bool.and_self]) <;> fail))); (focus (first | ((simp only [go_sem, List.nil_append, false_and, if_false]) <;> fail) | rfl))) | refine vcP_safe (h47) rfl rfl (by (simp only [go_sem, List.nil_append, false_and, if_false])) ?_ | refine dCallP_safe (h47) rfl rfl ?_) | (simp only [go_sem, List.nil_append, false_and, if_false])))
  refine ⟨⟨by omega, by omega, .inl trivial⟩, ?_⟩
  (repeat' (first | ((first | with_reducible refine vcG_split ?_ ?_ | with_reducible refine vcIf_split ?_ ?_ | with_reducible refine vcQ_split ?_ ?_ | with_reducible refine vcDG_split ?_ ?_) <;> intro hb <;> (try rw [hb]) <;> (try simp only [Bool.and_eq_true, Bool.or_eq_true, dtrue, dfalse, Bool.not_eq_true', Bool.not_eq_false', Bool.and_eq_false_iff, Bool.or_eq_false_iff, Bool.not_true, Bool.not_false] at hb) <;> (try simp only [within] at hb) <;> try (simp only [go_sem, List.nil_append, false_and, if_false])) | refine And.intro (by (first | exact trivial | (simp only [I64]; omega) | omega)) ?_ | (with_reducible rw [vc_draw_eq]; first | refine CV.draw (id := 7) [(0, 1), (0, 1), (0, 1), (0, 0), (0, 0), (0, 0), (0, 0), (0, 0), (0, 0), (0, 0), (0, 0), (0, 0), (0, 0), (0, 0), (0, 0), (99, 0), (1, 1), (0, 0)] mixed rfl (by kernel_rfl) ?_ | refine CV.draw (id := 18) [(0, 1), (0, 0), (0, 0), (0, 0), (1, 1), (1, 1), (1, 1), (1, 2), (0, 1), (0, 0), (2, 2)] mixed rfl (by kernel_rfl) ?_ | refine CV.draw (id := 19) [(0, 1), (0, 0), (0, 0), (0, 0), (1, 1), (1, 1), (1, 1), (1, 2), (0, 1), (0, 0), (2, 2)] mixed rfl (by kernel_rfl) ?_) | (first | (refine vcP_pure (g47) rfl ?_ ?_ ?_; (focus (first | rfl | ((simp only [go_sem, List.nil_append, false_and, if_false, AV.pureL, AV.pure, pureL_mapI, Bool.and_self]) <;> fail))); (focus (first | ((simp only [go_sem, List.nil_append, false_and, if_false]) <;> fail) | rfl))) | (refine dCallP_pure (g47) rfl ?_ ?_ ?_; (focus (first | rfl | ((simp only [go_sem, List.nil_append, false_and, if_false, AV.pureL, AV.pure, pureL_mapI, Bool.and_self]) <;> fail))); (focus (first | ((simp only [go_sem, List.nil_append, false_and, if_false]) <;> fail) | rfl))) | refine vcP_safe (g47) rfl rfl (by (simp only [go_sem, List.nil_append, false_and, if_false])) ?_ | refine dCallP_safe (g47) rfl rfl ?_ | (refine vcP_pure (c17) rfl ?_ ?_ ?_; (focus (first | rfl | ((simp only [go_sem, List.nil_append, false_and, if_false, AV.pureL, AV.pure, pureL_mapI, Bool.and_self]) <;> fail))); (focus (first | ((simp only [go_sem, List.nil_append, false_and, if_false]) <;> fail) | rfl))) | (refine dCallP_pure (c17) rfl ?_ ?_ ?_; (focus (first | rfl | ((simp only [go_sem, List.nil_append, false_and, if_false, AV.pureL, AV.pure, pureL_mapI, Bool.and_self]) <;> fail))); (focus (first | ((simp only [go_sem, List.nil_append, false_and, if_false]) <;> fail) | rfl))) | refine vcP_safe (c17) rfl rfl (by (simp only [go_sem, List.nil_append, false_and, if_false])) ?_ | refine dCallP_safe (c17) rfl rfl ?_) | (simp only [go_sem, List.nil_append, false_and, if_false])))
end Go.Proofs.Ytekdocalipchpaa
