/- Contracts of functions of the given program, without a condition beyond those that each theorem states; they lead to the given statement. -/
import Derived.Test.YtoadkchhimojlaaK01e
set_option linter.unusedSimpArgs false
set_option linter.unusedVariables false
set_option maxRecDepth 100000
namespace Go.Proofs.Ytoadkchhimojlaa
open Go Go.Fl
open Classical
def sK01f_f94_2 : List (Nat × Nat) := [(0, 0), (0, 0), (0, 0), (0, 0), (0, 0), (0, 0), (0, 0), (0, 0), (1, 1)]
def sK01f_f94_11 : List (Nat × Nat) := [(0, 0), (0, 0), (0, 0), (0, 0), (0, 0)]
def sK01f_f94_12 : List (Nat × Nat) := [(0, 1), (0, 1), (0, 0), (0, 0), (0, 0), (0, 0), (0, 0), (0, 0), (0, 0), (1, 1), (0, 0)]
def sK01f_f94_14 : List (Nat × Nat) := [(0, 0), (0, 0), (0, 0), (0, 0), (0, 0), (0, 0), (0, 0), (0, 0), (0, 0), (0, 0), (0, 0), (0, 0), (0, 0), (0, 0), (0, 0)]
def sK01f_f94_15 : List (Nat × Nat) := [(0, 0), (0, 0), (0, 0), (0, 0), (0, 0)]
theorem dsx {P : Program} {g : FuncId} {args a2 a3 : List AV} {dst : Option Nat} {lo hi : Nat} {s : DS} {K : DS → Prop} {v : AV} (hc : PC P g a2 v) (hv : v.pure = true) (hs : safeV v = true) (h : K (dPutF s dst v lo hi fun H => frzL H args a2)) : dCallP P g args a3 dst lo hi s K := by
  unfold dCallP; exact ⟨v, _, fun H hf => hc.use (handsOn_safe hs hf) hv, h⟩
theorem safeL_mapI : ∀ s : List Int, safeL (s.map I) = true
  | [] => rfl
  | x :: s => by simp only [List.map_cons, safeL, safeL_mapI s]; rfl
theorem adds_pre {k : Nat} {stop : Int} {nb f m : Nat} {p : List (List Int)} {i : Nat} : ∀ {n : Nat}, i ≤ n → ∃ r, adds k stop nb f m p n = adds k stop nb f m p i ++ r
  | 0, h => ⟨[], by have : i = 0 := by omega
                    subst this; simp⟩
  | n + 1, h => by
    rcases Nat.lt_or_ge i (n + 1) with h1 | h1
    · obtain ⟨r, hr⟩ := adds_pre (n := n) (show i ≤ n by omega)
      cases hu : usd p n with
      | true => rw [adds_yes hu]; exact ⟨r, hr⟩
      | false => rw [adds_no hu, hr, List.append_assoc]; exact ⟨_, rfl⟩
    · have : i = n + 1 := by omega
      subst this; exact ⟨[], by simp⟩
theorem okQ.okP {h : House} {p : List (List Int)} (hk : okG h) (q : okQ h.ms.length h.bs.length p) : okP h p := by
  obtain ⟨k1, k2, k3, k4, _⟩ := hk
  exact ⟨by rw [q.len]; exact Nat.le_refl _, fun l hl => ⟨by have := q.short hl; omega, q.rng l hl⟩⟩
theorem tim_len (h : House) (p : List (List Int)) : (tim h p).length = 5 := by
  have : ∀ (ms : List Mach) (p : List (List Int)) (T : List Int), (timF h ms p T).length = T.length := by
    intro ms
    induction ms with
    | nil => intro p T; rfl
    | cons m ms ih =>
      intro p T
      cases p with
      | nil => rfl
      | cons l p => rw [timF, ih, runM_len]
  exact this _ _ _
theorem rdy_len (h : House) (T : List Int) : (rdy h T).length = 4 := rdF_len T h.bs 0 r0
structure Cons (σ : Type) (h : House) (b l : Nat) (stop : Int) (HC : σ → Heap) (al : σ → Prop) (st : σ → List (List Int) → σ × Bool) : Prop where
  len : ∀ s, (HC s).length = b
  go : ∀ s p, al s → okQ h.ms.length h.bs.length p → (st s p).2 = true → al (st s p).1
  yl : ∀ s p j g, al s → okQ h.ms.length h.bs.length p → HCY Try.prog l [.row (b + 1) h.ms.length, .agg ((rdy h (tim h p)).map I)] (HC s ++ ownP b l h stop p j g) fun r H2 => r = .bool (st s p).2 ∧ H2 = HC (st s p).1 ++ ownP b l h stop p j g
set_option maxHeartbeats 8000000 in
theorem c94 {σ : Type} (h : House) (hk : okG h) (b l : Nat) (stop : Int) (HC : σ → Heap) (al : σ → Prop) (st : σ → List (List Int) → σ × Bool) (hc : Cons σ h b l stop HC al st) :
    ∀ (f m : Nat) (p : List (List Int)) (s : σ) (j : Nat → List Int) (g : Nat → Nat), okQ h.ms.length h.bs.length p → m ≤ h.ms.length → (h.ms.length - m) + cnt (usd p) h.bs.length + 1 ≤ f → al s →
      HCH Try.prog 94 (.int .i64 m :: capsP b h stop) (HC s ++ ownP b l h stop p j g) fun r H' => ∃ j' g', r = .bool (runC st s (plansF h.ms.length stop h.bs.length f m p)).2 ∧ H' = HC (runC st s (plansF h.ms.length stop h.bs.length f m p)).1 ++ ownP b l h stop p j' g' ∧ ((runC st s (plansF h.ms.length stop h.bs.length f m p)).2 = true → al (runC st s (plansF h.ms.length stop h.bs.length f m p)).1) := by
  obtain ⟨k1, k2, k3, k4, k5, k6, k7, k8⟩ := id hk
  intro f
  induction f with
  | zero => intro m p s j g hq hm hf; omega
  | succ f ih =>
    intro m p s j g hq hm hf hal
    have hlen := hc.len
    have ga1 : ∀ (s : σ) (own : Heap) (i : Nat), (HC s ++ own)[b + i]? = own[i]? := fun s own i => ga (hlen s) i
    have ga2 : ∀ (s : σ) (own : Heap), (HC s ++ own)[b]? = own[0]? := fun s own => ga0 (hlen s)
    have sa1 : ∀ (s : σ) (own : Heap) (i : Nat) (v : Blk), (HC s ++ own).set (b + i) v = HC s ++ own.set i v := fun s own i v => sa (hlen s) i v
    refine HCH.body Try.func94 (by kernel_rfl) rfl (by simp [Try.f94]) ?_
    simp only [Try.f94]
    refine CV.run ?_
    by_cases hmk : m = h.ms.length
    · subst hmk
      have c1 := c96 h hk p (hq.okP hk)
      have c2 := c95 h hk (tim h p) (tim_len h p)
      have hrow : ∀ i, i < h.ms.length → ∀ s' : σ, (HC s' ++ ownP b l h stop p j g)[b + (i + 5)]? = some (rgE p j g i) := fun i hi s' => by
        rw [ga1]; simp [rng_get hi]
      have hfz := frzP (j := j) (g := g) hq.len (fun i hi => hrow i hi s)
      (repeat' (first | ((with_reducible first | refine vcG_split ?_ ?_ | refine vcIf_split ?_ ?_ | refine vcQ_split ?_ ?_ | refine vcDG_split ?_ ?_) <;> intro hb <;> (try rw [hb]) <;> (try simp only [bq, bz, dtrue, dfalse] at hb) <;> (try simp only [within] at hb) <;> try (simp only [go_sem, ga1, ga2, sa1, List.length_range, hfz, pureL_mapI])) | refine And.intro (by first | exact trivial | omega | (simp only [I64]; omega)) ?_ | (with_reducible rw [vc_draw_eq]; first | (refine CV.draw (id := 2) sK01f_f94_2 mixed rfl (by kernel_rfl) ?_; delta sK01f_f94_2) | (refine CV.draw (id := 11) sK01f_f94_11 mixed rfl (by kernel_rfl) ?_; delta sK01f_f94_11) | (refine CV.draw (id := 12) sK01f_f94_12 mixed rfl (by kernel_rfl) ?_; delta sK01f_f94_12) | (refine CV.draw (id := 14) sK01f_f94_14 mixed rfl (by kernel_rfl) ?_; delta sK01f_f94_14) | (refine CV.draw (id := 15) sK01f_f94_15 mixed rfl (by kernel_rfl) ?_; delta sK01f_f94_15)) | (simp only [go_sem, ga1, ga2, sa1, List.length_range, hfz, pureL_mapI])))
      refine dsx c1 (pureL_mapI _) (safeL_mapI _) ?_
      (repeat' (first | ((with_reducible first | refine vcG_split ?_ ?_ | refine vcIf_split ?_ ?_ | refine vcQ_split ?_ ?_ | refine vcDG_split ?_ ?_) <;> intro hb <;> (try rw [hb]) <;> (try simp only [bq, bz, dtrue, dfalse] at hb) <;> (try simp only [within] at hb) <;> try (simp only [go_sem, ga1, ga2, sa1, List.length_range, hfz, pureL_mapI])) | refine And.intro (by first | exact trivial | omega | (simp only [I64]; omega)) ?_ | (with_reducible rw [vc_draw_eq]; first | (refine CV.draw (id := 2) sK01f_f94_2 mixed rfl (by kernel_rfl) ?_; delta sK01f_f94_2) | (refine CV.draw (id := 11) sK01f_f94_11 mixed rfl (by kernel_rfl) ?_; delta sK01f_f94_11) | (refine CV.draw (id := 12) sK01f_f94_12 mixed rfl (by kernel_rfl) ?_; delta sK01f_f94_12) | (refine CV.draw (id := 14) sK01f_f94_14 mixed rfl (by kernel_rfl) ?_; delta sK01f_f94_14) | (refine CV.draw (id := 15) sK01f_f94_15 mixed rfl (by kernel_rfl) ?_; delta sK01f_f94_15)) | (simp only [go_sem, ga1, ga2, sa1, List.length_range, hfz, pureL_mapI])))
      refine dsx c2 (pureL_mapI _) (safeL_mapI _) ?_
      (repeat' (first | ((with_reducible first | refine vcG_split ?_ ?_ | refine vcIf_split ?_ ?_ | refine vcQ_split ?_ ?_ | refine vcDG_split ?_ ?_) <;> intro hb <;> (try rw [hb]) <;> (try simp only [bq, bz, dtrue, dfalse] at hb) <;> (try simp only [within] at hb) <;> try (simp only [go_sem, ga1, ga2, sa1, List.length_range, hfz, pureL_mapI])) | refine And.intro (by first | exact trivial | omega | (simp only [I64]; omega)) ?_ | (with_reducible rw [vc_draw_eq]; first | (refine CV.draw (id := 2) sK01f_f94_2 mixed rfl (by kernel_rfl) ?_; delta sK01f_f94_2) | (refine CV.draw (id := 11) sK01f_f94_11 mixed rfl (by kernel_rfl) ?_; delta sK01f_f94_11) | (refine CV.draw (id := 12) sK01f_f94_12 mixed rfl (by kernel_rfl) ?_; delta sK01f_f94_12) | (refine CV.draw (id := 14) sK01f_f94_14 mixed rfl (by kernel_rfl) ?_; delta sK01f_f94_14) | (refine CV.draw (id := 15) sK01f_f94_15 mixed rfl (by kernel_rfl) ?_; delta sK01f_f94_15)) | (simp only [go_sem, ga1, ga2, sa1, List.length_range, hfz, pureL_mapI])))
      refine dCallY_mk ?_ (hc.yl s p j g hal hq) ?_
      · (simp only [go_sem])
      (repeat' (first | ((with_reducible first | refine vcG_split ?_ ?_ | refine vcIf_split ?_ ?_ | refine vcQ_split ?_ ?_ | refine vcDG_split ?_ ?_) <;> intro hb <;> (try rw [hb]) <;> (try simp only [bq, bz, dtrue, dfalse] at hb) <;> (try simp only [within] at hb) <;> try (simp only [go_sem, ga1, ga2, sa1, List.length_range, hfz, pureL_mapI, frzL_mapI])) | refine And.intro (by first | exact trivial | omega | (simp only [I64]; omega)) ?_ | (with_reducible rw [vc_draw_eq]; first | (refine CV.draw (id := 2) sK01f_f94_2 mixed rfl (by kernel_rfl) ?_; delta sK01f_f94_2) | (refine CV.draw (id := 11) sK01f_f94_11 mixed rfl (by kernel_rfl) ?_; delta sK01f_f94_11) | (refine CV.draw (id := 12) sK01f_f94_12 mixed rfl (by kernel_rfl) ?_; delta sK01f_f94_12) | (refine CV.draw (id := 14) sK01f_f94_14 mixed rfl (by kernel_rfl) ?_; delta sK01f_f94_14) | (refine CV.draw (id := 15) sK01f_f94_15 mixed rfl (by kernel_rfl) ?_; delta sK01f_f94_15)) | (simp only [go_sem, ga1, ga2, sa1, List.length_range, hfz, pureL_mapI, frzL_mapI])))
      have e : plansF h.ms.length stop h.bs.length (f + 1) h.ms.length p = [p] := by simp [plansF]
      rw [e, runC_one]
      exact ⟨j, g, rfl, rfl, hc.go s p hal hq⟩
    · have hlt : m < h.ms.length := by omega
      have hne : (m : Int) ≠ h.ms.length := by omega
      have hI : I64 ((m : Int) + 1) = True := eq_true (by unfold I64; omega)
      (repeat' (first | ((with_reducible first | refine vcG_split ?_ ?_ | refine vcIf_split ?_ ?_ | refine vcQ_split ?_ ?_ | refine vcDG_split ?_ ?_) <;> intro hb <;> (try rw [hb]) <;> (try simp only [bq, bz, dtrue, dfalse] at hb) <;> (try simp only [within] at hb) <;> try (simp only [go_sem, ga1, ga2, sa1, List.length_range, hne, hI])) | refine And.intro (by first | exact trivial | omega | (simp only [I64]; omega)) ?_ | (with_reducible rw [vc_draw_eq]; first | (refine CV.draw (id := 2) sK01f_f94_2 mixed rfl (by kernel_rfl) ?_; delta sK01f_f94_2) | (refine CV.draw (id := 11) sK01f_f94_11 mixed rfl (by kernel_rfl) ?_; delta sK01f_f94_11) | (refine CV.draw (id := 12) sK01f_f94_12 mixed rfl (by kernel_rfl) ?_; delta sK01f_f94_12) | (refine CV.draw (id := 14) sK01f_f94_14 mixed rfl (by kernel_rfl) ?_; delta sK01f_f94_14) | (refine CV.draw (id := 15) sK01f_f94_15 mixed rfl (by kernel_rfl) ?_; delta sK01f_f94_15)) | (simp only [go_sem, ga1, ga2, sa1, List.length_range, hne, hI])))
      refine vcP_raw ((ih (m + 1) p s j g hq hlt (by omega) hal).mono ?_)
      rintro r H' ⟨j1, g1, rfl, rfl, hal1⟩
      have eP : plansF h.ms.length stop h.bs.length (f + 1) m p = plansF h.ms.length stop h.bs.length f (m + 1) p ++ (if (m : Int) = stop then [] else adds h.ms.length stop h.bs.length f m p h.bs.length) := by simp [plansF, hmk, adds]
      rw [eP]
      generalize plansF h.ms.length stop h.bs.length f (m + 1) p = L1 at hal1 ⊢
      cases hR : (runC st s L1).2 with
      | false =>
        (repeat' (first | ((with_reducible first | refine vcG_split ?_ ?_ | refine vcIf_split ?_ ?_ | refine vcQ_split ?_ ?_ | refine vcDG_split ?_ ?_) <;> intro hb <;> (try rw [hb]) <;> (try simp only [bq, bz, dtrue, dfalse] at hb) <;> (try simp only [within] at hb) <;> try (simp only [go_sem, ga1, ga2, sa1, List.length_range])) | refine And.intro (by first | exact trivial | omega | (simp only [I64]; omega)) ?_ | (with_reducible rw [vc_draw_eq]; first | (refine CV.draw (id := 2) sK01f_f94_2 mixed rfl (by kernel_rfl) ?_; delta sK01f_f94_2) | (refine CV.draw (id := 11) sK01f_f94_11 mixed rfl (by kernel_rfl) ?_; delta sK01f_f94_11) | (refine CV.draw (id := 12) sK01f_f94_12 mixed rfl (by kernel_rfl) ?_; delta sK01f_f94_12) | (refine CV.draw (id := 14) sK01f_f94_14 mixed rfl (by kernel_rfl) ?_; delta sK01f_f94_14) | (refine CV.draw (id := 15) sK01f_f94_15 mixed rfl (by kernel_rfl) ?_; delta sK01f_f94_15)) | (simp only [go_sem, ga1, ga2, sa1, List.length_range])))
        refine ⟨j1, g1, ?_, ?_, ?_⟩
        · rw [runC_app, hR]; simp
        · rw [runC_app, hR]; simp
        · rw [runC_app, hR]; simp
      | true =>
        by_cases hst : (m : Int) = stop
        · (repeat' (first | ((with_reducible first | refine vcG_split ?_ ?_ | refine vcIf_split ?_ ?_ | refine vcQ_split ?_ ?_ | refine vcDG_split ?_ ?_) <;> intro hb <;> (try rw [hb]) <;> (try simp only [bq, bz, dtrue, dfalse] at hb) <;> (try simp only [within] at hb) <;> try (simp only [go_sem, ga1, ga2, sa1, List.length_range, hst])) | refine And.intro (by first | exact trivial | omega | (simp only [I64]; omega)) ?_ | (with_reducible rw [vc_draw_eq]; first | (refine CV.draw (id := 2) sK01f_f94_2 mixed rfl (by kernel_rfl) ?_; delta sK01f_f94_2) | (refine CV.draw (id := 11) sK01f_f94_11 mixed rfl (by kernel_rfl) ?_; delta sK01f_f94_11) | (refine CV.draw (id := 12) sK01f_f94_12 mixed rfl (by kernel_rfl) ?_; delta sK01f_f94_12) | (refine CV.draw (id := 14) sK01f_f94_14 mixed rfl (by kernel_rfl) ?_; delta sK01f_f94_14) | (refine CV.draw (id := 15) sK01f_f94_15 mixed rfl (by kernel_rfl) ?_; delta sK01f_f94_15)) | (simp only [go_sem, ga1, ga2, sa1, List.length_range, hst])))
          exact ⟨j1, g1, by rw [hR], rfl, hal1⟩
        · rw [if_neg hst]
          (repeat' (first | ((with_reducible first | refine vcG_split ?_ ?_ | refine vcIf_split ?_ ?_ | refine vcQ_split ?_ ?_ | refine vcDG_split ?_ ?_) <;> intro hb <;> (try rw [hb]) <;> (try simp only [bq, bz, dtrue, dfalse] at hb) <;> (try simp only [within] at hb) <;> try (simp only [go_sem, ga1, ga2, sa1, List.length_range, hst])) | refine And.intro (by first | exact trivial | omega | (simp only [I64]; omega)) ?_ | (with_reducible rw [vc_draw_eq]; first | (refine CV.draw (id := 2) sK01f_f94_2 mixed rfl (by kernel_rfl) ?_; delta sK01f_f94_2) | (refine CV.draw (id := 11) sK01f_f94_11 mixed rfl (by kernel_rfl) ?_; delta sK01f_f94_11) | (refine CV.draw (id := 12) sK01f_f94_12 mixed rfl (by kernel_rfl) ?_; delta sK01f_f94_12) | (refine CV.draw (id := 14) sK01f_f94_14 mixed rfl (by kernel_rfl) ?_; delta sK01f_f94_14) | (refine CV.draw (id := 15) sK01f_f94_15 mixed rfl (by kernel_rfl) ?_; delta sK01f_f94_15)) | (simp only [go_sem, ga1, ga2, sa1, List.length_range, hst])))
          refine vc_fx (fun i (x : σ × (Nat → List Int) × (Nat → Nat)) => ⟨[(34, .int .i64 i), (33, .int .i64 h.bs.length), (0, .int .i64 m), (1, .lp (b + 2) 0), (2, .lp b 0), (3, .pp (cG h)), (4, .lp (b + 4) 0), (5, .pp [.int .i64 stop]), (6, .lp (b + 3) 0), (8, .bool false)], HC x.1 ++ ownP b l h stop p x.2.1 x.2.2⟩) h.bs.length (fun i x => runC st s (L1 ++ adds h.ms.length stop h.bs.length f m p i) = (x.1, true) ∧ al x.1) ((runC st s L1).1, j1, g1) (.base (by (first | exact wk_same (by (simp only [go_sem, Int.natCast_add, cn, Int.cast_ofNat_Int])) | (refine wk_drop ?_ ?_ ?_ ?_ ?_ <;> (simp only [go_sem, Int.natCast_add, cn, Int.cast_ofNat_Int]))))) ⟨by simp [adds, ← hR], hal1 hR⟩ ?_
          rintro i ⟨s1, j2, g2⟩ hi ⟨x1, x2⟩
          simp only at x1 x2
          rcases Nat.lt_or_ge i h.bs.length with hlt2 | hge
          · have hlt2' : (i : Int) < h.bs.length := by omega
            have hi5 : i < 5 := by omega
            have hU : bs (usd p) 5 < 32 := Nat.lt_of_lt_of_le (bs_lt (usd p) 5) (by decide)
            have hbit := bs_bit (f := usd p) hi5
            have a1 : ((bs (usd p) 5 : Nat) : Int) / 2 ^ i = ((bs (usd p) 5 / 2 ^ i : Nat) : Int) := by simp
            have a2 : bs (usd p) 5 / 2 ^ i ≤ bs (usd p) 5 := Nat.div_le_self _ _
            have a3 : (I64 ((bs (usd p) 5 / 2 ^ i : Nat) : Int)) = True := eq_true (by generalize bs (usd p) 5 / 2 ^ i = q at a2; unfold I64; omega)
            have a7 : (0 ≤ ((bs (usd p) 5 / 2 ^ i : Nat) : Int)) = True := eq_true (Int.natCast_nonneg _)
            have a4 : bs (usd p) 5 / 2 ^ i &&& 1 = bs (usd p) 5 / 2 ^ i % 2 := Nat.and_one_is_mod _
            have a5 : (I64 1) = True := eq_true (by unfold I64; omega)
            have a6 : (I64 ((i : Int) + 1)) = True := eq_true (by unfold I64; omega)
            cases hu : usd p i with
            | true =>
              rw [hu, if_pos rfl] at hbit
              (repeat' (first | ((with_reducible first | refine vcG_split ?_ ?_ | refine vcIf_split ?_ ?_ | refine vcQ_split ?_ ?_ | refine vcDG_split ?_ ?_) <;> intro hb <;> (try rw [hb]) <;> (try simp only [bq, bz, dtrue, dfalse] at hb) <;> (try simp only [within] at hb) <;> try (simp only [go_sem, hlt2', ga1, ga2, sa1, a1, a3, a4, a5, a6, a7, hbit])) | refine And.intro (by first | exact trivial | omega | (simp only [I64]; omega)) ?_ | (with_reducible rw [vc_draw_eq]; first | (refine CV.draw (id := 2) sK01f_f94_2 mixed rfl (by kernel_rfl) ?_; delta sK01f_f94_2) | (refine CV.draw (id := 11) sK01f_f94_11 mixed rfl (by kernel_rfl) ?_; delta sK01f_f94_11) | (refine CV.draw (id := 12) sK01f_f94_12 mixed rfl (by kernel_rfl) ?_; delta sK01f_f94_12) | (refine CV.draw (id := 14) sK01f_f94_14 mixed rfl (by kernel_rfl) ?_; delta sK01f_f94_14) | (refine CV.draw (id := 15) sK01f_f94_15 mixed rfl (by kernel_rfl) ?_; delta sK01f_f94_15)) | (simp only [go_sem, hlt2', ga1, ga2, sa1, a1, a3, a4, a5, a6, a7, hbit])))
              refine ⟨(s1, j2, g2), hlt2, .base (by (first | exact wk_same (by (simp only [go_sem, Int.natCast_add, cn, Int.cast_ofNat_Int])) | (refine wk_drop ?_ ?_ ?_ ?_ ?_ <;> (simp only [go_sem, Int.natCast_add, cn, Int.cast_ofNat_Int])))), ?_, x2⟩
              rw [adds_yes hu]; exact x1
            | false =>
              rw [hu, if_neg (by simp)] at hbit
              obtain ⟨lm, hlm⟩ := get_of (l := p) (j := m) (by rw [hq.len]; exact hlt)
              have hmp : m < p.length := by rw [hq.len]; exact hlt
              have hlmd : p.getD m [] = lm := by simp [hlm]
              have hlen5 : lm.length ≤ 5 := by have := hq.short (List.mem_of_getElem? hlm); omega
              have hq' := hq.add (m := m) (b := i) hlt hlt2 hu
              have b1 : (1 : Int) * 2 ^ i = ((2 ^ i : Nat) : Int) := by simp
              have b2 : bs (usd p) 5 ||| 2 ^ i = bs (usd (addB p m i)) 5 := by rw [bit_or _ hU _ hi5 hbit, bs_add hu (usd_add hmp) 5 hi5]
              have b3 : bs (usd (addB p m i)) 5 &&& (18446744073709551615 - 2 ^ i) = bs (usd p) 5 := by rw [bs_add hu (usd_add hmp) 5 hi5]; exact bit_an _ hU _ hi5 hbit
              have b4 : 2 ^ i ≤ 16 := by
                have : i ≤ 4 := by omega
                exact Nat.pow_le_pow_right (n := 2) (by omega) this
              have b5 : (I64 ((2 ^ i : Nat) : Int)) = True := eq_true (by generalize 2 ^ i = q at b4; unfold I64; omega)
              have b8 : (0 ≤ ((2 ^ i : Nat) : Int)) = True := eq_true (Int.natCast_nonneg _)
              have b6 : (I64 ((bs (usd p) 5 : Nat) : Int)) = True := eq_true (by unfold I64; omega)
              have hU' : bs (usd (addB p m i)) 5 < 32 := Nat.lt_of_lt_of_le (bs_lt _ 5) (by decide)
              have b7 : (I64 ((bs (usd (addB p m i)) 5 : Nat) : Int)) = True := eq_true (by unfold I64; omega)
              have hm3 : (m : Int) < h.ms.length := by omega
              have hrm := rng_get hlt
              have r1 : ((List.range h.ms.length).map (rowE b p g2)).set m [.rg (b + (m + 5)) (lm.length + 1) (g2 m + 1)] = (List.range h.ms.length).map (rowE b (addB p m i) fun x => if x = m then g2 m + 1 else g2 x) :=
                map_rng_set (by simp [addB, List.getElem?_set_self hmp, hlm]) fun x hx => by simp [addB, List.getElem?_set_ne (Ne.symm hx), hx]
              have t1 : List.take lm.length ((lm ++ j2 m).map encN) = lm.map encN := by rw [List.map_append]; exact List.take_left' (by simp)
              have r2 : ((List.range h.ms.length).map (rgE p j2 g2)).set m (.rg 3 1 (lm.map encN ++ [[.int .i64 (i : Int)]]) (g2 m + 1)) = (List.range h.ms.length).map (rgE (addB p m i) (fun x => if x = m then [] else j2 x) fun x => if x = m then g2 m + 1 else g2 x) :=
                map_rng_set (by simp [addB, List.getElem?_set_self hmp, hlm, encN]) fun x hx => by simp [addB, List.getElem?_set_ne (Ne.symm hx), hx]
              (repeat' (first | ((with_reducible first | refine vcG_split ?_ ?_ | refine vcIf_split ?_ ?_ | refine vcQ_split ?_ ?_ | refine vcDG_split ?_ ?_) <;> intro hb <;> (try rw [hb]) <;> (try simp only [bq, bz, dtrue, dfalse] at hb) <;> (try simp only [within] at hb) <;> try (simp only [go_sem, hlt2', ga1, ga2, sa1, a1, a3, a4, a5, a6, a7, hbit, b1, b2, b5, b6, b8, hm3, hrm, hlm, r1, t1, r2, List.length_range])) | refine And.intro (by first | exact trivial | omega | (simp only [I64]; omega)) ?_ | (with_reducible rw [vc_draw_eq]; first | (refine CV.draw (id := 2) sK01f_f94_2 mixed rfl (by kernel_rfl) ?_; delta sK01f_f94_2) | (refine CV.draw (id := 11) sK01f_f94_11 mixed rfl (by kernel_rfl) ?_; delta sK01f_f94_11) | (refine CV.draw (id := 12) sK01f_f94_12 mixed rfl (by kernel_rfl) ?_; delta sK01f_f94_12) | (refine CV.draw (id := 14) sK01f_f94_14 mixed rfl (by kernel_rfl) ?_; delta sK01f_f94_14) | (refine CV.draw (id := 15) sK01f_f94_15 mixed rfl (by kernel_rfl) ?_; delta sK01f_f94_15)) | (simp only [go_sem, hlt2', ga1, ga2, sa1, a1, a3, a4, a5, a6, a7, hbit, b1, b2, b5, b6, b8, hm3, hrm, hlm, r1, t1, r2, List.length_range])))
              refine ⟨⟨by omega, by omega, by simp⟩, by omega, hlt, ?_⟩
              refine vcP_raw ((ih m (addB p m i) s1 (fun x => if x = m then [] else j2 x) (fun x => if x = m then g2 m + 1 else g2 x) hq' (by omega) (by have := cnt_add hu (usd_add (b := i) hmp) h.bs.length hlt2; omega) x2).mono ?_)
              rintro r H' ⟨j3, g3, rfl, rfl, hal3⟩
              have hadd := adds_no (k := h.ms.length) (stop := stop) (nb := h.bs.length) (f := f) (m := m) hu
              have hrun : runC st s (L1 ++ adds h.ms.length stop h.bs.length f m p (i + 1)) = runC st s1 (plansF h.ms.length stop h.bs.length f m (addB p m i)) := by
                rw [hadd, ← List.append_assoc, runC_app, x1]; rfl
              generalize plansF h.ms.length stop h.bs.length f m (addB p m i) = L2 at hal3 hrun ⊢
              have hlm' : (addB p m i)[m]? = some (lm ++ [(i : Int)]) := by simp [addB, List.getElem?_set_self hmp, hlm]
              have r3 : ((List.range h.ms.length).map (rowE b (addB p m i) g3)).set m [.rg (b + (m + 5)) lm.length (g3 m)] = (List.range h.ms.length).map (rowE b p g3) :=
                map_rng_set (by simp [hlm]) fun x hx => by simp [addB, List.getElem?_set_ne (Ne.symm hx)]
              have r4 : (List.range h.ms.length).map (rgE (addB p m i) j3 g3) = (List.range h.ms.length).map (rgE p (fun x => if x = m then (i : Int) :: j3 m else j3 x) g3) := by
                refine List.map_congr_left fun x _ => ?_
                by_cases e : x = m
                · subst e; simp [hlm', hlm]
                · simp [addB, List.getElem?_set_ne (Ne.symm e), e]
              have t2 : ((lm.length + 1 : Nat) : Int) - 1 = (lm.length : Int) := by omega
              (repeat' (first | ((with_reducible first | refine vcG_split ?_ ?_ | refine vcIf_split ?_ ?_ | refine vcQ_split ?_ ?_ | refine vcDG_split ?_ ?_) <;> intro hb <;> (try rw [hb]) <;> (try simp only [bq, bz, dtrue, dfalse] at hb) <;> (try simp only [within] at hb) <;> try (simp only [go_sem, hlt2', ga1, ga2, sa1, a5, a6, b1, b3, b5, b7, b8, hm3, hrm, hlm', r3, r4, t2, List.length_range, List.length_append, List.length_cons, List.length_nil])) | refine And.intro (by first | exact trivial | omega | (simp only [I64]; omega)) ?_ | (with_reducible rw [vc_draw_eq]; first | (refine CV.draw (id := 2) sK01f_f94_2 mixed rfl (by kernel_rfl) ?_; delta sK01f_f94_2) | (refine CV.draw (id := 11) sK01f_f94_11 mixed rfl (by kernel_rfl) ?_; delta sK01f_f94_11) | (refine CV.draw (id := 12) sK01f_f94_12 mixed rfl (by kernel_rfl) ?_; delta sK01f_f94_12) | (refine CV.draw (id := 14) sK01f_f94_14 mixed rfl (by kernel_rfl) ?_; delta sK01f_f94_14) | (refine CV.draw (id := 15) sK01f_f94_15 mixed rfl (by kernel_rfl) ?_; delta sK01f_f94_15)) | (simp only [go_sem, hlt2', ga1, ga2, sa1, a5, a6, b1, b3, b5, b7, b8, hm3, hrm, hlm', r3, r4, t2, List.length_range, List.length_append, List.length_cons, List.length_nil])))
              · have hR2 : (runC st s1 L2).2 = false := by simpa using hb
                obtain ⟨r, hr⟩ := adds_pre (k := h.ms.length) (stop := stop) (nb := h.bs.length) (f := f) (m := m) (p := p) (show i + 1 ≤ h.bs.length from hlt2)
                have e3 : runC st s (L1 ++ adds h.ms.length stop h.bs.length f m p h.bs.length) = ((runC st s1 L2).1, false) := by
                  rw [hr, ← List.append_assoc, runC_app, hrun, hR2]; rfl
                rw [e3]
                exact ⟨_, _, rfl, rfl, fun e => by cases e⟩
              · have hR2 : (runC st s1 L2).2 = true := by simpa using hb
                exact ⟨((runC st s1 L2).1, (fun x => if x = m then (i : Int) :: j3 m else j3 x), g3), hlt2, .base (by (first | exact wk_same (by (simp only [go_sem, Int.natCast_add, cn, Int.cast_ofNat_Int])) | (refine wk_drop ?_ ?_ ?_ ?_ ?_ <;> (simp only [go_sem, Int.natCast_add, cn, Int.cast_ofNat_Int])))), by rw [hrun, ← hR2], hal3 hR2⟩
          · have hge' : ¬ (i : Int) < h.bs.length := by omega
            have : i = h.bs.length := by omega
            subst this
            (repeat' (first | ((with_reducible first | refine vcG_split ?_ ?_ | refine vcIf_split ?_ ?_ | refine vcQ_split ?_ ?_ | refine vcDG_split ?_ ?_) <;> intro hb <;> (try rw [hb]) <;> (try simp only [bq, bz, dtrue, dfalse] at hb) <;> (try simp only [within] at hb) <;> try (simp only [go_sem, hge'])) | refine And.intro (by first | exact trivial | omega | (simp only [I64]; omega)) ?_ | (with_reducible rw [vc_draw_eq]; first | (refine CV.draw (id := 2) sK01f_f94_2 mixed rfl (by kernel_rfl) ?_; delta sK01f_f94_2) | (refine CV.draw (id := 11) sK01f_f94_11 mixed rfl (by kernel_rfl) ?_; delta sK01f_f94_11) | (refine CV.draw (id := 12) sK01f_f94_12 mixed rfl (by kernel_rfl) ?_; delta sK01f_f94_12) | (refine CV.draw (id := 14) sK01f_f94_14 mixed rfl (by kernel_rfl) ?_; delta sK01f_f94_14) | (refine CV.draw (id := 15) sK01f_f94_15 mixed rfl (by kernel_rfl) ?_; delta sK01f_f94_15)) | (simp only [go_sem, hge'])))
            rw [x1]
            exact ⟨j2, g2, rfl, rfl, fun _ => x2⟩
end Go.Proofs.Ytoadkchhimojlaa

