/- Contracts of functions of the given program, without a condition beyond those that each theorem states; they lead to the given statement. -/
import Derived.Test.YtekdocalipchpaaV02s
import Derived.Test.YtekdocalipchpaaFlC
set_option linter.unusedSimpArgs false
set_option linter.unusedVariables false
set_option maxRecDepth 100000
namespace Go.Proofs.Ytekdocalipchpaa
open Go Go.Fl
open Classical
def sV03u_f18_1 : List (Nat × Nat) := [(0, 0), (0, 0), (0, 0), (0, 0), (0, 1), (0, 1), (0, 1), (0, 0), (0, 2), (0, 2), (2, 2), (0, 2), (0, 0)]
def sV03u_f18_5 : List (Nat × Nat) := [(0, 2), (0, 2), (0, 0), (0, 0), (0, 0), (0, 0), (0, 0), (0, 0), (0, 0), (0, 0), (0, 0), (3, 3), (0, 0)]
abbrev rwE (b : Nat) (f : Nat → List Int) (m : Nat) : List AV := [.row (m + b) (f m).length]
abbrev rwB (f : Nat → List Int) (m : Nat) : Blk := .row 3 1 ((f m).map encN) false
def wlN (s : Shop) (m : Nat) : List Int := (s.ws[m]?).getD []
abbrev cpK (s : Shop) : Heap := .box 26 (cS s) false :: .box 26 (cpC s s.ws.length) false :: .row 51 3 (s.ms.map encD) false :: .row 3 1 (s.wt.map encN) false :: .box 26 (cpC s s.ws.length) false :: .row 24 1 ((List.range s.ws.length).map (rwE 6 (wlN s))) false :: (List.range s.ws.length).map (rwB (wlN s))
theorem tg0 {f : Nat → Blk} {k : Nat} {l : Heap} : ((List.range k).map f ++ l)[k]? = l[0]? := by
  rw [List.getElem?_append_right (by simp)]; simp
theorem tg1 {f : Nat → Blk} {k : Nat} {l : Heap} : ((List.range k).map f ++ l)[k + 1]? = l[1]? := by
  rw [List.getElem?_append_right (by simp)]; simp
theorem ts0 {f : Nat → Blk} {k : Nat} {l : Heap} {v : Blk} : ((List.range k).map f ++ l).set k v = (List.range k).map f ++ l.set 0 v := by
  rw [List.set_append_right _ _ (by simp)]; simp
theorem ts1 {f : Nat → Blk} {k : Nat} {l : Heap} {v : Blk} : ((List.range k).map f ++ l).set (k + 1) v = (List.range k).map f ++ l.set 1 v := by
  rw [List.set_append_right _ _ (by simp)]; simp
theorem pfx_app : ∀ {a l : Heap}, pfx a (a ++ l) = True
  | [], l => by simp [pfx]
  | x :: a, l => by simp [pfx, pfx_app (a := a)]
theorem wk_eq {m : Nat} {env env' : Env} {H H' : Heap} (hH : H = H') (h : subE env env') : Wk m ⟨env, H⟩ ⟨env', H'⟩ := by subst hH; exact wk_same h
theorem belowH_all {n : Nat} : ∀ {H : Heap}, (∀ x ∈ H, belowB n x) → belowH n H
  | [], _ => trivial
  | x :: H, h => ⟨h x (by simp), belowH_all fun y hy => h y (by simp [hy])⟩
theorem belowB_rwE {n b k : Nat} {f : Nat → List Int} {sl : Bool} (hn : k + b ≤ n) : belowB n (.row 24 1 ((List.range k).map (rwE b f)) sl) = True := by
  refine eq_true fun e he => ?_
  obtain ⟨m, hm, rfl⟩ := List.mem_map.1 he
  have := List.mem_range.1 hm
  simp [rwE, belowL, belowV]; omega
theorem belowH_rwB {n k : Nat} {f : Nat → List Int} : belowH n ((List.range k).map (rwB f)) = True := by
  refine eq_true (belowH_all fun x hx => ?_)
  obtain ⟨m, _, rfl⟩ := List.mem_map.1 hx
  exact fun e he => belowL_pure n _ ((show pureE (List.map encN _) by rw [pureN]; trivial) e he)
theorem rng_get {n m : Nat} (h : m < n) : (List.range n)[m]? = some m := by simp [h]
theorem map_rng_set {α : Type} {f f' : Nat → α} {n m : Nat} {v : α} (hv : v = f' m) (hf : ∀ i, i ≠ m → f i = f' i) : ((List.range n).map f).set m v = (List.range n).map f' := by
  apply List.ext_getElem?
  intro i
  rw [List.getElem?_set]
  by_cases e : m = i
  · subst e
    simp only [if_true, List.length_map, List.length_range]
    split
    · simp [*]
    · simp only [List.getElem?_map]
      rw [List.getElem?_eq_none (by simp; omega)]; rfl
  · rw [if_neg e]
    simp only [List.getElem?_map]
    by_cases h : i < n
    · rw [rng_get h]; simp [hf i (fun e2 => e e2.symm)]
    · rw [List.getElem?_eq_none (by simp; omega)]; rfl
theorem shift_rwE {n b k : Nat} {f : Nat → List Int} : ((List.range k).map (rwE b f)).map (shiftL n) = (List.range k).map (rwE (n + b) f) := by
  rw [List.map_map]; exact List.map_congr_left fun m _ => by simp [rwE, shiftL, shiftV]; omega
theorem shift_rwB {n k : Nat} {f : Nat → List Int} : ((List.range k).map (rwB f)).map (shiftB n) = (List.range k).map (rwB f) := by
  rw [List.map_map]; exact List.map_congr_left fun m _ => by simp only [Function.comp, rwB, shiftB, shift_mapN]
set_option maxHeartbeats 1000000 in
theorem h18w (s : Shop) (h : ¬ huge s) : HCH Try.prog 18 [hS s] [] fun r H' => r = cpV s ∧ H' = cpK s := by
  obtain ⟨hl1, hl2, hl3, hl4⟩ := not_huge h
  refine HCH.body Try.func18 (by kernel_rfl) rfl (by simp [Try.f18]) ?_
  simp only [Try.f18]
  refine CV.run ?_
  (repeat' (first | ((with_reducible first | refine vcG_split ?_ ?_ | refine vcIf_split ?_ ?_ | refine vcQ_split ?_ ?_ | refine vcDG_split ?_ ?_) <;> intro hb <;> (try rw [hb]) <;> (try simp only [bq, bz, dtrue, dfalse] at hb) <;> (try simp only [within] at hb) <;> try (simp only [go_sem, List.nil_append])) | refine And.intro (by first | exact trivial | omega | (simp only [I64]; omega)) ?_ | (with_reducible rw [vc_draw_eq]; first | (refine CV.draw (id := 1) sV03u_f18_1 mixed rfl (by kernel_rfl) ?_; delta sV03u_f18_1) | (refine CV.draw (id := 5) sV03u_f18_5 mixed rfl (by kernel_rfl) ?_; delta sV03u_f18_5)) | (simp only [go_sem, List.nil_append])))
  refine ⟨⟨by omega, by omega, .inl trivial⟩, ?_⟩
  refine ⟨⟨by omega, by omega, .inl trivial⟩, ?_⟩
  (repeat' (first | ((with_reducible first | refine vcG_split ?_ ?_ | refine vcIf_split ?_ ?_ | refine vcQ_split ?_ ?_ | refine vcDG_split ?_ ?_) <;> intro hb <;> (try rw [hb]) <;> (try simp only [bq, bz, dtrue, dfalse] at hb) <;> (try simp only [within] at hb) <;> try (simp only [go_sem, List.nil_append])) | refine And.intro (by first | exact trivial | omega | (simp only [I64]; omega)) ?_ | (with_reducible rw [vc_draw_eq]; first | (refine CV.draw (id := 1) sV03u_f18_1 mixed rfl (by kernel_rfl) ?_; delta sV03u_f18_1) | (refine CV.draw (id := 5) sV03u_f18_5 mixed rfl (by kernel_rfl) ?_; delta sV03u_f18_5)) | (simp only [go_sem, List.nil_append])))
  refine vc_fw (fun j => ⟨[(4, .int .i64 j), (1, .lp 0 0), (2, .lp 1 0), (3, .lp 4 0)], .box 26 (cS s) false :: .box 26 [.nilS, .nilS, .nilS, .int .i64 0] false :: .row 51 3 (s.ms.map encD) false :: .row 3 1 (s.wt.map encN) false :: .box 26 (cpC s j) false :: .row 24 1 ((List.range j).map (rwE 6 (wlN s))) false :: (List.range j).map (rwB (wlN s))⟩) s.ws.length (fun _ => True) (.nilB 4 1 24 1 rfl rfl (by omega) (.base (by (first | exact wk_same (by (simp only [go_sem, Int.natCast_add, cn, Int.cast_ofNat_Int, List.range_zero, List.map_nil])) | (refine wk_drop ?_ ?_ ?_ ?_ ?_ <;> (simp only [go_sem, Int.natCast_add, cn, Int.cast_ofNat_Int, List.range_zero, List.map_nil])))))) trivial ?_
  intro j hj _
  rcases Nat.lt_or_ge j s.ws.length with hlt | hge
  · obtain ⟨w, hw⟩ := get_of hlt
    have hlt' : (j : Int) < s.ws.length := by omega
    have hwl := hl4 w (List.mem_of_getElem? hw)
    have ew : wlN s j = w := by simp [wlN, hw]
    (repeat' (first | ((with_reducible first | refine vcG_split ?_ ?_ | refine vcIf_split ?_ ?_ | refine vcQ_split ?_ ?_ | refine vcDG_split ?_ ?_) <;> intro hb <;> (try rw [hb]) <;> (try simp only [bq, bz, dtrue, dfalse] at hb) <;> (try simp only [within] at hb) <;> try (simp only [go_sem, hlt', hw, encW, false_and, if_false, true_or, and_true, List.length_map, List.length_range, tg0, tg1, ts0, Nat.add_assoc, List.nil_append, List.length_append, List.length_cons, List.length_nil, List.append_assoc, List.cons_append])) | refine And.intro (by first | exact trivial | omega | (simp only [I64]; omega)) ?_ | (with_reducible rw [vc_draw_eq]; first | (refine CV.draw (id := 1) sV03u_f18_1 mixed rfl (by kernel_rfl) ?_; delta sV03u_f18_1) | (refine CV.draw (id := 5) sV03u_f18_5 mixed rfl (by kernel_rfl) ?_; delta sV03u_f18_5)) | (simp only [go_sem, hlt', hw, encW, false_and, if_false, true_or, and_true, List.length_map, List.length_range, tg0, tg1, ts0, Nat.add_assoc, List.nil_append, List.length_append, List.length_cons, List.length_nil, List.append_assoc, List.cons_append])))
    have e1 : List.map (rwE 6 (wlN s)) (List.range j) ++ [[.row (j + 6) w.length]] = List.map (rwE 6 (wlN s)) (List.range j ++ [j]) := by rw [List.map_append]; simp [rwE, ew]
    have e2 : ∀ g : Blk, List.map (rwB (wlN s)) (List.range j) ++ [.row 3 1 (List.map encN w) false, g] = List.map (rwB (wlN s)) (List.range j ++ [j]) ++ [g] := fun g => by rw [List.map_append]; simp [rwB, ew]
    rw [e1, e2]
    have ll : (List.map (rwB (wlN s)) (List.range j ++ [j])).length = j + 1 := by simp
    refine .base (wk_drop (by (simp only [go_sem, Int.natCast_add, cn])) (by simp only [pfx, pfx_app, true_and]) (Nat.zero_le _) ?_ ?_)
    · simp only [List.length_cons, ll]
      simp [belowE, belowV]
    · have hb := belowB_rwE (n := j + 1 + 6) (b := 6) (k := j + 1) (f := wlN s) (sl := false) (by omega)
      have hb2 := belowH_rwB (n := j + 1 + 6) (k := j + 1) (f := wlN s)
      rw [List.range_succ] at hb hb2
      simp only [List.length_cons, ll]
      (simp only [go_sem, hb, hb2])
      simp only [decide_eq_true_eq, Bool.and_eq_true]; omega
  · have hge' : ¬ (j : Int) < s.ws.length := by omega
    have : j = s.ws.length := by omega
    subst this
    (repeat' (first | ((with_reducible first | refine vcG_split ?_ ?_ | refine vcIf_split ?_ ?_ | refine vcQ_split ?_ ?_ | refine vcDG_split ?_ ?_) <;> intro hb <;> (try rw [hb]) <;> (try simp only [bq, bz, dtrue, dfalse] at hb) <;> (try simp only [within] at hb) <;> try (simp only [go_sem, hge'])) | refine And.intro (by first | exact trivial | omega | (simp only [I64]; omega)) ?_ | (with_reducible rw [vc_draw_eq]; first | (refine CV.draw (id := 1) sV03u_f18_1 mixed rfl (by kernel_rfl) ?_; delta sV03u_f18_1) | (refine CV.draw (id := 5) sV03u_f18_5 mixed rfl (by kernel_rfl) ?_; delta sV03u_f18_5)) | (simp only [go_sem, hge'])))
    all_goals trace_state
end Go.Proofs.Ytekdocalipchpaa

