/- Contracts of functions of the given program, without a condition beyond those that each theorem states; they lead to the given statement. -/
import Derived.Test.YtoadkchhimojlaaGreatG04f
set_option linter.unusedSimpArgs false
set_option linter.unusedVariables false
set_option maxRecDepth 100000
namespace Go.Proofs.YtoadkchhimojlaaGreat
open Go Go.Fl
open Classical
def sG04g_f66_3 : List (Nat × Nat) := [(0, 0), (0, 0), (0, 0), (0, 0), (0, 1), (0, 1), (0, 0), (1, 1), (0, 0)]
def sG04g_f66_10 : List (Nat × Nat) := [(0, 1), (0, 1), (0, 0), (0, 0), (0, 0), (0, 0), (0, 0), (0, 0), (0, 0), (1, 1), (0, 0)]
def sG04g_f66_11 : List (Nat × Nat) := [(0, 0), (0, 0), (0, 0), (0, 0), (0, 0), (0, 0), (0, 0)]
def sG04g_f66_12 : List (Nat × Nat) := [(0, 0), (0, 0), (0, 0), (0, 0), (0, 0), (0, 0), (0, 0), (0, 0), (0, 0), (0, 0), (0, 0), (0, 0), (0, 0), (0, 0), (0, 0)]
theorem argEnv7 {a b c d e f g : AV} : argEnv 0 [a, b, c, d, e, f, g] = [(0, a), (1, b), (2, c), (3, d), (4, e), (5, f), (6, g)] := rfl
attribute [go_sem] argEnv7
theorem dsx {P : Program} {g : FuncId} {args a2 a3 : List AV} {dst : Option Nat} {lo hi : Nat} {s : DS} {K : DS → Prop} {v : AV} (hc : PC P g a2 v) (hv : v.pure = true) (hs : safeV v = true) (h : K (dPutF s dst v lo hi fun H => frzL H args a2)) : dCallP P g args a3 dst lo hi s K := by
  unfold dCallP; exact ⟨v, _, fun H hf => hc.use (handsOn_safe hs hf) hv, h⟩
theorem safeN (l : List Int) : ∀ e, e ∈ l.map encN → safeL e = true := fun e he => by
  obtain ⟨x, _, rfl⟩ := List.mem_map.1 he; rfl
theorem lkR_app : ∀ {l : List (List Int × Int)} {k : List Int} {n : Int}, lkR l k = none → lkR (l ++ [(k, n)]) k = some (l.length, n)
  | [], k, n, _ => by simp [lkR]
  | x :: l, k, n, h => by
    simp only [lkR] at h
    split at h
    · cases h
    · rename_i hx
      have ih := lkR_app (l := l) (k := k) (n := n) (by simpa using h)
      simp only [List.cons_append, lkR, if_neg hx, ih, Option.map_some, List.length_cons]
theorem idR_up (F : List (List Int × Int)) (k : List Int) : (idR (upR F k) k).2 = (idR F k).2 := by
  unfold upR
  cases h : lkR F k with
  | none => simp only [Option.isSome_none, Bool.false_eq_true, if_false, idR, lkR_app h, h]; rfl
  | some r => simp
theorem upR_len {F : List (List Int × Int)} {k : List Int} (h : ∀ e, e ∈ F → e.1.length = 12) (hk : k.length = 12) : ∀ e, e ∈ upR F k → e.1.length = 12 := fun e he => by
  unfold upR at he
  split at he
  · exact h e he
  · rcases List.mem_append.1 he with he | he
    · exact h e he
    · rw [List.mem_singleton.1 he]; exact hk
theorem pfx_app : ∀ {A B : Heap}, pfx A (A ++ B)
  | [], _ => trivial
  | _ :: A, B => ⟨rfl, pfx_app⟩
theorem belowH_all {n : Nat} : ∀ {H : Heap}, (∀ x, x ∈ H → belowB n x) → belowH n H
  | [], _ => trivial
  | x :: H, h => ⟨h x (by simp), belowH_all fun y hy => h y (by simp [hy])⟩
theorem belowH_rg {n k : Nat} {p : List (List Int)} {j : Nat → List Int} {g : Nat → Nat} : belowH n ((List.range k).map (rgE p j g)) := belowH_all fun x hx => by
  obtain ⟨m, _, rfl⟩ := List.mem_map.1 hx
  intro e he
  obtain ⟨y, _, rfl⟩ := List.mem_map.1 he
  rfl
theorem own_wk {a : Hall} (ha : okH a) {stop : Int} {mg : Nat} {F : List (List Int × Int)} {p : List (List Int)} {j : Nat → List Int} {g : Nat → Nat} {T : Heap} {env : Env} {m : Nat} (hm : m ≤ a.hs.ms.length + 7) : Wn m ⟨env, ownN a stop mg F p j g ++ T⟩ ⟨[], ownN a stop mg F p j g⟩ := by
  obtain ⟨⟨k1, _⟩, _⟩ := ha
  have hl : (ownN a stop mg F p j g).length = a.hs.ms.length + 7 := by simp
  refine .base (wk_drop trivial pfx_app (by rw [hl]; exact hm) trivial ?_)
  rw [hl]
  refine ⟨rfl, rfl, trivial, rfl, fun e he => ?_, ?_, ?_, belowH_rg⟩
  · obtain ⟨m, h1, rfl⟩ := List.mem_map.1 he
    have := List.mem_range.1 h1
    simp [belowL, belowV]; omega
  · simp [belowB, belowL, belowV]
  · simp [belowB, belowL, belowV]
set_option maxHeartbeats 8000000 in
theorem c66 (a : Hall) (ha : okH a) (stop : Int) (mg : Nat) :
    ∀ (f m : Nat) (p : List (List Int)) (F : List (List Int × Int)) (c : Nat) (j : Nat → List Int) (g : Nat → Nat), okQ a.hs.ms.length a.hs.bs.length p → p.flatten.Nodup → m ≤ a.hs.ms.length → (a.hs.ms.length - m) + cnt (usd p) a.hs.bs.length + 1 ≤ f → okF F c → c + (plansF a.hs.ms.length stop a.hs.bs.length f m p).length ≤ 100000 →
      ∃ (j' : Nat → List Int) (g' : Nat → Nat), HCH Tryz.prog 66 (.int .i64 m :: .int .i64 (bs (usd p) 5 : Nat) :: capsN) (ownN a stop mg F p j g) fun r H' => r = .tup [] ∧ H' = ownN a stop mg ((plansF a.hs.ms.length stop a.hs.bs.length f m p).foldl (stN a) F) p j' g' := by
  obtain ⟨hk, b1, b2, b3, b4, b5⟩ := id ha
  obtain ⟨k1, k2, k3, k4, k5, k6, k7, k8⟩ := id hk
  intro f
  induction f with
  | zero => intro m p F c j g hq hn hm hf; omega
  | succ f ih =>
    intro m p F c j g hq hn hm hf hF hc
    by_cases hmk : m = a.hs.ms.length
    · subst hmk
      refine ⟨j, g, ?_⟩
      refine HCH.bodyN Tryz.func66 (by kernel_rfl) rfl (by simp [Tryz.f66]) ?_
      simp only [Tryz.f66]
      refine CV.run ?_
      have e : plansF a.hs.ms.length stop a.hs.bs.length (f + 1) a.hs.ms.length p = [p] := by simp [plansF]
      rw [e]
      have c1 := h67 a.hs hk p hq hn
      have c2 := c68 a ha p (hq.okP hk)
      have hrow : ∀ (F' : List (List Int × Int)) (T : Heap) i, i < a.hs.ms.length → (ownN a stop mg F' p j g ++ T)[i + 7]? = some (rgE p j g i) := fun F' T i hi => by
        rw [List.getElem?_append_left (by simp; omega)]
        simp [rng_get hi]
      have hfz := fun F' T => frzP (j := j) (g := g) hq.len (hrow F' T)
      have hfz0 := hfz F []
      rw [List.append_nil] at hfz0
      simp only [List.cons_append] at hfz
      (repeat' (first | ((with_reducible first | refine vcG_split ?_ ?_ | refine vcIf_split ?_ ?_ | refine vcQ_split ?_ ?_ | refine vcDG_split ?_ ?_) <;> intro hb <;> (try rw [hb]) <;> (try simp only [bq, bz, dtrue, dfalse] at hb) <;> (try simp only [within] at hb) <;> try (simp only [go_sem, List.length_range])) | refine And.intro (by first | exact trivial | omega | (simp only [I64]; omega)) ?_ | (with_reducible rw [vc_draw_eq]; first | (refine CV.draw (id := 3) sG04g_f66_3 mixed rfl (by kernel_rfl) ?_; delta sG04g_f66_3) | (refine CV.draw (id := 10) sG04g_f66_10 mixed rfl (by kernel_rfl) ?_; delta sG04g_f66_10) | (refine CV.draw (id := 11) sG04g_f66_11 mixed rfl (by kernel_rfl) ?_; delta sG04g_f66_11) | (refine CV.draw (id := 12) sG04g_f66_12 mixed rfl (by kernel_rfl) ?_; delta sG04g_f66_12)) | (simp only [go_sem, List.length_range])))
      refine vcP_fnew c1 (by (simp only [go_sem, hfz0, List.length_range])) rfl ⟨safeN _, trivial⟩ ?_
      by_cases hl : (lateP a.hs p).length = 0
      · have hl' : ((lateP a.hs p).length : Int) = 0 := by omega
        have hs12 := (okS.needS a p).1
        have hk12 : (∀ e, e ∈ F → e.1.length = 12) = True := eq_true fun e he => (hF e he).1.1
        have hid := hF.id (needS a p)
        have hid2 : I64 ((idR F (needS a p)).2 + 1) = True := eq_true (by unfold I64; omega)
        have hlt := idR_lt F (needS a p)
        have hlt' : ((idR F (needS a p)).1 : Int) < (upR F (needS a p)).length := by omega
        have hst : stN a F p = stR (upR F (needS a p)) (idR F (needS a p)).1 ((idR F (needS a p)).2 + 1) := by rw [stN, if_pos hl]; rfl
        (repeat' (first | ((with_reducible first | refine vcG_split ?_ ?_ | refine vcIf_split ?_ ?_ | refine vcQ_split ?_ ?_ | refine vcDG_split ?_ ?_) <;> intro hb <;> (try rw [hb]) <;> (try simp only [bq, bz, dtrue, dfalse] at hb) <;> (try simp only [within] at hb) <;> try (simp only [go_sem, List.length_range, hl'])) | refine And.intro (by first | exact trivial | omega | (simp only [I64]; omega)) ?_ | (with_reducible rw [vc_draw_eq]; first | (refine CV.draw (id := 3) sG04g_f66_3 mixed rfl (by kernel_rfl) ?_; delta sG04g_f66_3) | (refine CV.draw (id := 10) sG04g_f66_10 mixed rfl (by kernel_rfl) ?_; delta sG04g_f66_10) | (refine CV.draw (id := 11) sG04g_f66_11 mixed rfl (by kernel_rfl) ?_; delta sG04g_f66_11) | (refine CV.draw (id := 12) sG04g_f66_12 mixed rfl (by kernel_rfl) ?_; delta sG04g_f66_12)) | (simp only [go_sem, List.length_range, hl'])))
        refine dsx c2 (pureL_mapI _) (safeL_mapI _) ?_
        (repeat' (first | ((with_reducible first | refine vcG_split ?_ ?_ | refine vcIf_split ?_ ?_ | refine vcQ_split ?_ ?_ | refine vcDG_split ?_ ?_) <;> intro hb <;> (try rw [hb]) <;> (try simp only [bq, bz, dtrue, dfalse] at hb) <;> (try simp only [within] at hb) <;> try (simp only [go_sem, List.length_range, hfz, findR, intsA_mapI, hk12, hs12, hid2, hlt'])) | refine And.intro (by first | exact trivial | omega | (simp only [I64]; omega)) ?_ | (with_reducible rw [vc_draw_eq]; first | (refine CV.draw (id := 3) sG04g_f66_3 mixed rfl (by kernel_rfl) ?_; delta sG04g_f66_3) | (refine CV.draw (id := 10) sG04g_f66_10 mixed rfl (by kernel_rfl) ?_; delta sG04g_f66_10) | (refine CV.draw (id := 11) sG04g_f66_11 mixed rfl (by kernel_rfl) ?_; delta sG04g_f66_11) | (refine CV.draw (id := 12) sG04g_f66_12 mixed rfl (by kernel_rfl) ?_; delta sG04g_f66_12)) | (simp only [go_sem, List.length_range, hfz, findR, intsA_mapI, hk12, hs12, hid2, hlt'])))
        refine ⟨⟨fun _ => upR_len (fun e he => (hF e he).1.1) hs12, by rw [idR_up]⟩, ⟨[], ownN a stop mg (stN a F p) p j g⟩, ?_, rfl⟩
        rw [hst]
        exact own_wk ha (by omega)
      · have hl' : ¬ ((lateP a.hs p).length : Int) = 0 := by omega
        (repeat' (first | ((with_reducible first | refine vcG_split ?_ ?_ | refine vcIf_split ?_ ?_ | refine vcQ_split ?_ ?_ | refine vcDG_split ?_ ?_) <;> intro hb <;> (try rw [hb]) <;> (try simp only [bq, bz, dtrue, dfalse] at hb) <;> (try simp only [within] at hb) <;> try (simp only [go_sem, List.length_range, hl'])) | refine And.intro (by first | exact trivial | omega | (simp only [I64]; omega)) ?_ | (with_reducible rw [vc_draw_eq]; first | (refine CV.draw (id := 3) sG04g_f66_3 mixed rfl (by kernel_rfl) ?_; delta sG04g_f66_3) | (refine CV.draw (id := 10) sG04g_f66_10 mixed rfl (by kernel_rfl) ?_; delta sG04g_f66_10) | (refine CV.draw (id := 11) sG04g_f66_11 mixed rfl (by kernel_rfl) ?_; delta sG04g_f66_11) | (refine CV.draw (id := 12) sG04g_f66_12 mixed rfl (by kernel_rfl) ?_; delta sG04g_f66_12)) | (simp only [go_sem, List.length_range, hl'])))
        refine ⟨⟨[], ownN a stop mg F p j g⟩, own_wk ha (by omega), ?_⟩
        rw [List.foldl_cons, List.foldl_nil, stN, if_neg hl]
    · have hlt : m < a.hs.ms.length := by omega
      have hne : (m : Int) ≠ a.hs.ms.length := by omega
      have hI : I64 ((m : Int) + 1) = True := eq_true (by unfold I64; omega)
      have eP : plansF a.hs.ms.length stop a.hs.bs.length (f + 1) m p = plansF a.hs.ms.length stop a.hs.bs.length f (m + 1) p ++ (if (m : Int) = stop then [] else adds a.hs.ms.length stop a.hs.bs.length f m p a.hs.bs.length) := by simp [plansF, hmk, adds]
      rw [eP] at hc ⊢
      have hall := fun q hq' => (plansF_ok (stop := stop) (f + 1) m p hq hn hm q (by rw [eP]; exact hq')).1.len
      have hL1 : c + (plansF a.hs.ms.length stop a.hs.bs.length f (m + 1) p).length ≤ 100000 := by rw [List.length_append] at hc; omega
      obtain ⟨j1, g1, h1⟩ := ih (m + 1) p F c j g hq hn hlt (by omega) hF hL1
      generalize plansF a.hs.ms.length stop a.hs.bs.length f (m + 1) p = L1 at hc hall hL1 h1 ⊢
      by_cases hst : (m : Int) = stop
      · rw [if_pos hst, List.append_nil]
        refine ⟨j1, g1, ?_⟩
        refine HCH.bodyN Tryz.func66 (by kernel_rfl) rfl (by simp [Tryz.f66]) ?_
        simp only [Tryz.f66]
        refine CV.run ?_
        (repeat' (first | ((with_reducible first | refine vcG_split ?_ ?_ | refine vcIf_split ?_ ?_ | refine vcQ_split ?_ ?_ | refine vcDG_split ?_ ?_) <;> intro hb <;> (try rw [hb]) <;> (try simp only [bq, bz, dtrue, dfalse] at hb) <;> (try simp only [within] at hb) <;> try (simp only [go_sem, List.length_range, hne, hI])) | refine And.intro (by first | exact trivial | omega | (simp only [I64]; omega)) ?_ | (with_reducible rw [vc_draw_eq]; first | (refine CV.draw (id := 3) sG04g_f66_3 mixed rfl (by kernel_rfl) ?_; delta sG04g_f66_3) | (refine CV.draw (id := 10) sG04g_f66_10 mixed rfl (by kernel_rfl) ?_; delta sG04g_f66_10) | (refine CV.draw (id := 11) sG04g_f66_11 mixed rfl (by kernel_rfl) ?_; delta sG04g_f66_11) | (refine CV.draw (id := 12) sG04g_f66_12 mixed rfl (by kernel_rfl) ?_; delta sG04g_f66_12)) | (simp only [go_sem, List.length_range, hne, hI])))
        refine vcP_raw (h1.mono ?_)
        rintro r H' ⟨rfl, rfl⟩
        (repeat' (first | ((with_reducible first | refine vcG_split ?_ ?_ | refine vcIf_split ?_ ?_ | refine vcQ_split ?_ ?_ | refine vcDG_split ?_ ?_) <;> intro hb <;> (try rw [hb]) <;> (try simp only [bq, bz, dtrue, dfalse] at hb) <;> (try simp only [within] at hb) <;> try (simp only [go_sem, List.length_range, hst])) | refine And.intro (by first | exact trivial | omega | (simp only [I64]; omega)) ?_ | (with_reducible rw [vc_draw_eq]; first | (refine CV.draw (id := 3) sG04g_f66_3 mixed rfl (by kernel_rfl) ?_; delta sG04g_f66_3) | (refine CV.draw (id := 10) sG04g_f66_10 mixed rfl (by kernel_rfl) ?_; delta sG04g_f66_10) | (refine CV.draw (id := 11) sG04g_f66_11 mixed rfl (by kernel_rfl) ?_; delta sG04g_f66_11) | (refine CV.draw (id := 12) sG04g_f66_12 mixed rfl (by kernel_rfl) ?_; delta sG04g_f66_12)) | (simp only [go_sem, List.length_range, hst])))
        exact ⟨⟨[], _⟩, .base (wk_same trivial), rfl⟩
      · rw [if_neg hst] at hc hall ⊢
        have hsub : ∀ (i : Nat) (x : (Nat → List Int) × (Nat → Nat)), ∃ y : (Nat → List Int) × (Nat → Nat), i < a.hs.bs.length → usd p i = false →
            HCH Tryz.prog 66 (.int .i64 m :: .int .i64 (bs (usd (addB p m i)) 5 : Nat) :: capsN) (ownN a stop mg ((L1 ++ adds a.hs.ms.length stop a.hs.bs.length f m p i).foldl (stN a) F) (addB p m i) x.1 x.2) fun r H' => r = .tup [] ∧ H' = ownN a stop mg ((L1 ++ adds a.hs.ms.length stop a.hs.bs.length f m p (i + 1)).foldl (stN a) F) (addB p m i) y.1 y.2 := by
          intro i x
          by_cases hi : i < a.hs.bs.length ∧ usd p i = false
          · obtain ⟨hi, hu⟩ := hi
            have hadd := adds_no (k := a.hs.ms.length) (stop := stop) (nb := a.hs.bs.length) (f := f) (m := m) hu
            have hq' := hq.add (m := m) (b := i) hlt hi hu
            have hmp : m < p.length := by rw [hq.len]; exact hlt
            have hn' := nodup_add (m := m) (b := i) hmp hn hu
            obtain ⟨r, hr⟩ := adds_pre (k := a.hs.ms.length) (stop := stop) (nb := a.hs.bs.length) (f := f) (m := m) (p := p) (show i + 1 ≤ a.hs.bs.length from hi)
            have hF1 : okF ((L1 ++ adds a.hs.ms.length stop a.hs.bs.length f m p i).foldl (stN a) F) (c + (L1 ++ adds a.hs.ms.length stop a.hs.bs.length f m p i).length) := hF.fold fun q hq2 => by
              have := hall q (by rw [hr, hadd, ← List.append_assoc, ← List.append_assoc]; simp only [List.mem_append] at hq2 ⊢; exact .inl (.inl hq2))
              omega
            obtain ⟨j3, g3, h3⟩ := ih m (addB p m i) _ _ x.1 x.2 hq' hn' (by omega) (by have := cnt_add hu (usd_add (b := i) hmp) a.hs.bs.length hi; omega) hF1 (by
              rw [hr, hadd] at hc
              simp only [List.length_append] at hc ⊢
              omega)
            refine ⟨(j3, g3), fun _ _ => ?_⟩
            have e := fun X Y => List.foldl_append (f := stN a) (b := F) (l := X) (l' := Y)
            rw [hadd, ← List.append_assoc, e (L1 ++ adds a.hs.ms.length stop a.hs.bs.length f m p i)]
            exact h3
          · exact ⟨x, fun h1 h2 => absurd ⟨h1, h2⟩ hi⟩
        obtain ⟨step, hstep⟩ : ∃ step : Nat → (Nat → List Int) × (Nat → Nat) → (Nat → List Int) × (Nat → Nat), ∀ i x, i < a.hs.bs.length → usd p i = false → HCH Tryz.prog 66 (.int .i64 m :: .int .i64 (bs (usd (addB p m i)) 5 : Nat) :: capsN) (ownN a stop mg ((L1 ++ adds a.hs.ms.length stop a.hs.bs.length f m p i).foldl (stN a) F) (addB p m i) x.1 x.2) fun r H' => r = .tup [] ∧ H' = ownN a stop mg ((L1 ++ adds a.hs.ms.length stop a.hs.bs.length f m p (i + 1)).foldl (stN a) F) (addB p m i) (step i x).1 (step i x).2 :=
          ⟨fun i x => (hsub i x).choose, fun i x => (hsub i x).choose_spec⟩
        let S : Nat → (Nat → List Int) × (Nat → Nat) := fun n => Nat.rec (j1, g1) (fun i x => if usd p i = true then x else ((fun z => if z = m then (i : Int) :: (step i (fun z => if z = m then [] else x.1 z, fun z => if z = m then x.2 m + 1 else x.2 z)).1 m else (step i (fun z => if z = m then [] else x.1 z, fun z => if z = m then x.2 m + 1 else x.2 z)).1 z), (step i (fun z => if z = m then [] else x.1 z, fun z => if z = m then x.2 m + 1 else x.2 z)).2)) n
        have S0 : S 0 = (j1, g1) := rfl
        have Sy : ∀ i, usd p i = true → S (i + 1) = S i := fun i h => if_pos h
        have Sn : ∀ i, usd p i = false → S (i + 1) = ((fun z => if z = m then (i : Int) :: (step i (fun z => if z = m then [] else (S i).1 z, fun z => if z = m then (S i).2 m + 1 else (S i).2 z)).1 m else (step i (fun z => if z = m then [] else (S i).1 z, fun z => if z = m then (S i).2 m + 1 else (S i).2 z)).1 z), (step i (fun z => if z = m then [] else (S i).1 z, fun z => if z = m then (S i).2 m + 1 else (S i).2 z)).2) := fun i h => if_neg (by rw [h]; simp)
        clear_value S
        refine ⟨(S a.hs.bs.length).1, (S a.hs.bs.length).2, ?_⟩
        refine HCH.bodyN Tryz.func66 (by kernel_rfl) rfl (by simp [Tryz.f66]) ?_
        simp only [Tryz.f66]
        refine CV.run ?_
        (repeat' (first | ((with_reducible first | refine vcG_split ?_ ?_ | refine vcIf_split ?_ ?_ | refine vcQ_split ?_ ?_ | refine vcDG_split ?_ ?_) <;> intro hb <;> (try rw [hb]) <;> (try simp only [bq, bz, dtrue, dfalse] at hb) <;> (try simp only [within] at hb) <;> try (simp only [go_sem, List.length_range, hne, hI])) | refine And.intro (by first | exact trivial | omega | (simp only [I64]; omega)) ?_ | (with_reducible rw [vc_draw_eq]; first | (refine CV.draw (id := 3) sG04g_f66_3 mixed rfl (by kernel_rfl) ?_; delta sG04g_f66_3) | (refine CV.draw (id := 10) sG04g_f66_10 mixed rfl (by kernel_rfl) ?_; delta sG04g_f66_10) | (refine CV.draw (id := 11) sG04g_f66_11 mixed rfl (by kernel_rfl) ?_; delta sG04g_f66_11) | (refine CV.draw (id := 12) sG04g_f66_12 mixed rfl (by kernel_rfl) ?_; delta sG04g_f66_12)) | (simp only [go_sem, List.length_range, hne, hI])))
        refine vcP_raw (h1.mono ?_)
        rintro r H' ⟨rfl, rfl⟩
        (repeat' (first | ((with_reducible first | refine vcG_split ?_ ?_ | refine vcIf_split ?_ ?_ | refine vcQ_split ?_ ?_ | refine vcDG_split ?_ ?_) <;> intro hb <;> (try rw [hb]) <;> (try simp only [bq, bz, dtrue, dfalse] at hb) <;> (try simp only [within] at hb) <;> try (simp only [go_sem, List.length_range, hst])) | refine And.intro (by first | exact trivial | omega | (simp only [I64]; omega)) ?_ | (with_reducible rw [vc_draw_eq]; first | (refine CV.draw (id := 3) sG04g_f66_3 mixed rfl (by kernel_rfl) ?_; delta sG04g_f66_3) | (refine CV.draw (id := 10) sG04g_f66_10 mixed rfl (by kernel_rfl) ?_; delta sG04g_f66_10) | (refine CV.draw (id := 11) sG04g_f66_11 mixed rfl (by kernel_rfl) ?_; delta sG04g_f66_11) | (refine CV.draw (id := 12) sG04g_f66_12 mixed rfl (by kernel_rfl) ?_; delta sG04g_f66_12)) | (simp only [go_sem, List.length_range, hst])))
        refine vc_fw (fun i => ⟨[(48, .int .i64 i), (47, .int .i64 a.hs.bs.length), (0, .int .i64 m), (1, .int .i64 (bs (usd p) 5 : Nat)), (2, .lp 5 0), (5, .lp 6 0)], ownN a stop mg ((L1 ++ adds a.hs.ms.length stop a.hs.bs.length f m p i).foldl (stN a) F) p (S i).1 (S i).2⟩) a.hs.bs.length (fun _ => True) (.base (by rw [S0, show adds a.hs.ms.length stop a.hs.bs.length f m p 0 = [] by simp [adds], List.append_nil]; (first | exact wk_same (by (simp only [go_sem, Int.natCast_add, cn, Int.cast_ofNat_Int])) | (refine wk_drop ?_ ?_ ?_ ?_ ?_ <;> (simp only [go_sem, Int.natCast_add, cn, Int.cast_ofNat_Int]))))) trivial ?_
        intro i hi _
        rcases Nat.lt_or_ge i a.hs.bs.length with hlt2 | hge
        · have hlt2' : (i : Int) < a.hs.bs.length := by omega
          have hi5 : i < 5 := by omega
          have hU : bs (usd p) 5 < 32 := Nat.lt_of_lt_of_le (bs_lt (usd p) 5) (by decide)
          have hbit := bs_bit (f := usd p) hi5
          have a1 : ((bs (usd p) 5 : Nat) : Int) / 2 ^ i = ((bs (usd p) 5 / 2 ^ i : Nat) : Int) := by simp
          have a2 : bs (usd p) 5 / 2 ^ i ≤ bs (usd p) 5 := Nat.div_le_self _ _
          have a3 : (I64 ((bs (usd p) 5 / 2 ^ i : Nat) : Int)) = True := eq_true (by generalize bs (usd p) 5 / 2 ^ i = q at a2; unfold I64; omega)
          have a7 : (0 ≤ ((bs (usd p) 5 / 2 ^ i : Nat) : Int)) = True := eq_true (Int.natCast_nonneg _)
          have a4 : bs (usd p) 5 / 2 ^ i &&& 1 = bs (usd p) 5 / 2 ^ i % 2 := Nat.and_one_is_mod _
          have a5 : (I64 1) = True := eq_true (by unfold I64; omega)
          have a6 : (I64 ((i : Int) + 1)) = True := eq_true (by unfold I64; omega)
          cases hu : usd p i with
          | true =>
            rw [hu, if_pos rfl] at hbit
            (repeat' (first | ((with_reducible first | refine vcG_split ?_ ?_ | refine vcIf_split ?_ ?_ | refine vcQ_split ?_ ?_ | refine vcDG_split ?_ ?_) <;> intro hb <;> (try rw [hb]) <;> (try simp only [bq, bz, dtrue, dfalse] at hb) <;> (try simp only [within] at hb) <;> try (simp only [go_sem, hlt2', a1, a3, a4, a5, a6, a7, hbit])) | refine And.intro (by first | exact trivial | omega | (simp only [I64]; omega)) ?_ | (with_reducible rw [vc_draw_eq]; first | (refine CV.draw (id := 3) sG04g_f66_3 mixed rfl (by kernel_rfl) ?_; delta sG04g_f66_3) | (refine CV.draw (id := 10) sG04g_f66_10 mixed rfl (by kernel_rfl) ?_; delta sG04g_f66_10) | (refine CV.draw (id := 11) sG04g_f66_11 mixed rfl (by kernel_rfl) ?_; delta sG04g_f66_11) | (refine CV.draw (id := 12) sG04g_f66_12 mixed rfl (by kernel_rfl) ?_; delta sG04g_f66_12)) | (simp only [go_sem, hlt2', a1, a3, a4, a5, a6, a7, hbit])))
            exact .base (by rw [adds_yes hu, Sy i hu]; (first | exact wk_same (by (simp only [go_sem, Int.natCast_add, cn, Int.cast_ofNat_Int])) | (refine wk_drop ?_ ?_ ?_ ?_ ?_ <;> (simp only [go_sem, Int.natCast_add, cn, Int.cast_ofNat_Int]))))
          | false =>
            rw [hu, if_neg (by simp)] at hbit
            obtain ⟨lm, hlm⟩ := get_of (l := p) (j := m) (by rw [hq.len]; exact hlt)
            have hmp : m < p.length := by rw [hq.len]; exact hlt
            have hlmd : p.getD m [] = lm := by simp [hlm]
            have hlen5 : lm.length ≤ 5 := by have := hq.short (List.mem_of_getElem? hlm); omega
            have hq' := hq.add (m := m) (b := i) hlt hlt2 hu
            have hn' := nodup_add (m := m) (b := i) hmp hn hu
            have b1 : (1 : Int) * 2 ^ i = ((2 ^ i : Nat) : Int) := by simp
            have b2 : bs (usd p) 5 ||| 2 ^ i = bs (usd (addB p m i)) 5 := by rw [bit_or _ hU _ hi5 hbit, bs_add hu (usd_add hmp) 5 hi5]
            have b4 : 2 ^ i ≤ 16 := by
              have : i ≤ 4 := by omega
              exact Nat.pow_le_pow_right (n := 2) (by omega) this
            have b5 : (I64 ((2 ^ i : Nat) : Int)) = True := eq_true (by generalize 2 ^ i = q at b4; unfold I64; omega)
            have b8 : (0 ≤ ((2 ^ i : Nat) : Int)) = True := eq_true (Int.natCast_nonneg _)
            have b6 : (I64 ((bs (usd p) 5 : Nat) : Int)) = True := eq_true (by unfold I64; omega)
            have hm3 : (m : Int) < a.hs.ms.length := by omega
            have hi1 := hstep i (fun z => if z = m then [] else (S i).1 z, fun z => if z = m then (S i).2 m + 1 else (S i).2 z) hlt2 hu
            have Sn1 := Sn i hu
            generalize hF2 : (L1 ++ adds a.hs.ms.length stop a.hs.bs.length f m p (i + 1)).foldl (stN a) F = F2 at *
            generalize hF1 : (L1 ++ adds a.hs.ms.length stop a.hs.bs.length f m p i).foldl (stN a) F = F1 at *
            generalize hz : step i (fun z => if z = m then [] else (S i).1 z, fun z => if z = m then (S i).2 m + 1 else (S i).2 z) = z3 at *
            obtain ⟨j3, g3⟩ := z3
            generalize hSi : S i = Si at *
            obtain ⟨j2, g2⟩ := Si
            have hrm := rng_get hlt
            have r1 : ((List.range a.hs.ms.length).map (rowE p g2)).set m [.rg (m + 7) (lm.length + 1) (g2 m + 1)] = (List.range a.hs.ms.length).map (rowE (addB p m i) fun x => if x = m then g2 m + 1 else g2 x) :=
              map_rng_set (by simp [addB, List.getElem?_set_self hmp, hlm]) fun x hx => by simp [addB, List.getElem?_set_ne (Ne.symm hx), hx]
            have t1 : List.take lm.length ((lm ++ j2 m).map encN) = lm.map encN := by rw [List.map_append]; exact List.take_left' (by simp)
            have r2 : ((List.range a.hs.ms.length).map (rgE p j2 g2)).set m (.rg 3 1 (lm.map encN ++ [[.int .i64 (i : Int)]]) (g2 m + 1)) = (List.range a.hs.ms.length).map (rgE (addB p m i) (fun x => if x = m then [] else j2 x) fun x => if x = m then g2 m + 1 else g2 x) :=
              map_rng_set (by simp [addB, List.getElem?_set_self hmp, hlm, encN]) fun x hx => by simp [addB, List.getElem?_set_ne (Ne.symm hx), hx]
            (repeat' (first | ((with_reducible first | refine vcG_split ?_ ?_ | refine vcIf_split ?_ ?_ | refine vcQ_split ?_ ?_ | refine vcDG_split ?_ ?_) <;> intro hb <;> (try rw [hb]) <;> (try simp only [bq, bz, dtrue, dfalse] at hb) <;> (try simp only [within] at hb) <;> try (simp only [go_sem, hlt2', a1, a3, a4, a5, a6, a7, hbit, b1, b2, b5, b6, b8, hm3, hrm, hlm, r1, t1, r2, List.length_range])) | refine And.intro (by first | exact trivial | omega | (simp only [I64]; omega)) ?_ | (with_reducible rw [vc_draw_eq]; first | (refine CV.draw (id := 3) sG04g_f66_3 mixed rfl (by kernel_rfl) ?_; delta sG04g_f66_3) | (refine CV.draw (id := 10) sG04g_f66_10 mixed rfl (by kernel_rfl) ?_; delta sG04g_f66_10) | (refine CV.draw (id := 11) sG04g_f66_11 mixed rfl (by kernel_rfl) ?_; delta sG04g_f66_11) | (refine CV.draw (id := 12) sG04g_f66_12 mixed rfl (by kernel_rfl) ?_; delta sG04g_f66_12)) | (simp only [go_sem, hlt2', a1, a3, a4, a5, a6, a7, hbit, b1, b2, b5, b6, b8, hm3, hrm, hlm, r1, t1, r2, List.length_range])))
            refine ⟨⟨by omega, by omega, by simp⟩, by omega, hlt, ?_⟩
            (repeat' (first | ((with_reducible first | refine vcG_split ?_ ?_ | refine vcIf_split ?_ ?_ | refine vcQ_split ?_ ?_ | refine vcDG_split ?_ ?_) <;> intro hb <;> (try rw [hb]) <;> (try simp only [bq, bz, dtrue, dfalse] at hb) <;> (try simp only [within] at hb) <;> try (simp only [go_sem, hlt2', a1, a3, a4, a5, a6, a7, hbit, b1, b2, b5, b6, b8, hm3, List.length_range])) | refine And.intro (by first | exact trivial | omega | (simp only [I64]; omega)) ?_ | (with_reducible rw [vc_draw_eq]; first | (refine CV.draw (id := 3) sG04g_f66_3 mixed rfl (by kernel_rfl) ?_; delta sG04g_f66_3) | (refine CV.draw (id := 10) sG04g_f66_10 mixed rfl (by kernel_rfl) ?_; delta sG04g_f66_10) | (refine CV.draw (id := 11) sG04g_f66_11 mixed rfl (by kernel_rfl) ?_; delta sG04g_f66_11) | (refine CV.draw (id := 12) sG04g_f66_12 mixed rfl (by kernel_rfl) ?_; delta sG04g_f66_12)) | (simp only [go_sem, hlt2', a1, a3, a4, a5, a6, a7, hbit, b1, b2, b5, b6, b8, hm3, List.length_range])))
            refine dCallC_here (List.append_nil _).symm hi1 ?_
            have hlm' : (addB p m i)[m]? = some (lm ++ [(i : Int)]) := by simp [addB, List.getElem?_set_self hmp, hlm]
            have r3 : ((List.range a.hs.ms.length).map (rowE (addB p m i) g3)).set m [.rg (m + 7) lm.length (g3 m)] = (List.range a.hs.ms.length).map (rowE p g3) :=
              map_rng_set (by simp [hlm]) fun x hx => by simp [addB, List.getElem?_set_ne (Ne.symm hx)]
            have r4 : (List.range a.hs.ms.length).map (rgE (addB p m i) j3 g3) = (List.range a.hs.ms.length).map (rgE p (fun x => if x = m then (i : Int) :: j3 m else j3 x) g3) := by
              refine List.map_congr_left fun x _ => ?_
              by_cases e : x = m
              · subst e; simp [hlm', hlm]
              · simp [addB, List.getElem?_set_ne (Ne.symm e), e]
            have t2 : ((lm.length + 1 : Nat) : Int) - 1 = (lm.length : Int) := by omega
            (repeat' (first | ((with_reducible first | refine vcG_split ?_ ?_ | refine vcIf_split ?_ ?_ | refine vcQ_split ?_ ?_ | refine vcDG_split ?_ ?_) <;> intro hb <;> (try rw [hb]) <;> (try simp only [bq, bz, dtrue, dfalse] at hb) <;> (try simp only [within] at hb) <;> try (simp only [go_sem, hlt2', a5, a6, b1, b5, b8, hm3, hrm, hlm', r3, r4, t2, List.length_range, List.length_append, List.length_cons, List.length_nil])) | refine And.intro (by first | exact trivial | omega | (simp only [I64]; omega)) ?_ | (with_reducible rw [vc_draw_eq]; first | (refine CV.draw (id := 3) sG04g_f66_3 mixed rfl (by kernel_rfl) ?_; delta sG04g_f66_3) | (refine CV.draw (id := 10) sG04g_f66_10 mixed rfl (by kernel_rfl) ?_; delta sG04g_f66_10) | (refine CV.draw (id := 11) sG04g_f66_11 mixed rfl (by kernel_rfl) ?_; delta sG04g_f66_11) | (refine CV.draw (id := 12) sG04g_f66_12 mixed rfl (by kernel_rfl) ?_; delta sG04g_f66_12)) | (simp only [go_sem, hlt2', a5, a6, b1, b5, b8, hm3, hrm, hlm', r3, r4, t2, List.length_range, List.length_append, List.length_cons, List.length_nil])))
            exact .base (by rw [Sn1]; (first | exact wk_same (by (simp only [go_sem, Int.natCast_add, cn, Int.cast_ofNat_Int])) | (refine wk_drop ?_ ?_ ?_ ?_ ?_ <;> (simp only [go_sem, Int.natCast_add, cn, Int.cast_ofNat_Int]))))
        · have hge' : ¬ (i : Int) < a.hs.bs.length := by omega
          have : i = a.hs.bs.length := by omega
          subst this
          (repeat' (first | ((with_reducible first | refine vcG_split ?_ ?_ | refine vcIf_split ?_ ?_ | refine vcQ_split ?_ ?_ | refine vcDG_split ?_ ?_) <;> intro hb <;> (try rw [hb]) <;> (try simp only [bq, bz, dtrue, dfalse] at hb) <;> (try simp only [within] at hb) <;> try (simp only [go_sem, hge'])) | refine And.intro (by first | exact trivial | omega | (simp only [I64]; omega)) ?_ | (with_reducible rw [vc_draw_eq]; first | (refine CV.draw (id := 3) sG04g_f66_3 mixed rfl (by kernel_rfl) ?_; delta sG04g_f66_3) | (refine CV.draw (id := 10) sG04g_f66_10 mixed rfl (by kernel_rfl) ?_; delta sG04g_f66_10) | (refine CV.draw (id := 11) sG04g_f66_11 mixed rfl (by kernel_rfl) ?_; delta sG04g_f66_11) | (refine CV.draw (id := 12) sG04g_f66_12 mixed rfl (by kernel_rfl) ?_; delta sG04g_f66_12)) | (simp only [go_sem, hge'])))
          exact ⟨⟨[], _⟩, .base (wk_same trivial), rfl⟩
end Go.Proofs.YtoadkchhimojlaaGreat

