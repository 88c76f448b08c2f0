/- Contracts of functions of the given program, without a condition beyond those that each theorem states; they lead to the given statement. -/
import Derived.Test.YtjlopclpofbgbaaDoorF13a
import Derived.Test.YtjlopclpofbgbaaDoorF12b
import Derived.Test.YtjlopclpofbgbaaDoorFlB
set_option linter.unusedSimpArgs false
set_option linter.unusedVariables false
set_option maxRecDepth 100000
namespace Go.Proofs.YtjlopclpofbgbaaDoor
open Go Go.Fl
open Classical
def sF13f_f14_26 : List (Nat × Nat) := [(0, 0), (0, 0), (0, 0), (0, 0), (0, 0), (0, 0), (0, 0), (0, 0), (0, 0), (0, 0), (0, 0)]
theorem left_in {t : Town} {b x : Int} (h0 : 0 ≤ x) (h1 : x < t.ts.length) : x ∈ lft t (allI t.ts.length) b ↔ stays t b x := by
  rw [lft_all, sel_mem]
  constructor
  · rintro ⟨i, _, rfl, h⟩; exact h
  · intro h
    obtain ⟨n, rfl⟩ : ∃ n : Nat, x = n := ⟨x.toNat, by omega⟩
    exact ⟨n, by omega, rfl, h⟩
theorem left_some {t : Town} {b : Int} {l : List Int} {k : Nat} (h : l.length ≤ k) : anyTo (stays t b) l k ↔ lft t l b ≠ [] := by
  rw [any_all h]
  unfold lft
  constructor
  · rintro ⟨x, h1, h2⟩ e
    exact fil_nil.1 e x h1 h2
  · intro h2
    obtain ⟨x, hx⟩ := List.exists_mem_of_ne_nil _ h2
    exact ⟨x, fil_mem.1 hx⟩
theorem left_fr {t : Town} {b : Int} {l : List Int} {k : Nat} (h : l.length ≤ k) : anyTo (fun x => stays t b x ∧ fr t x) l k ↔ ∃ x, x ∈ lft t l b ∧ fr t x := by
  rw [any_all h]
  unfold lft
  constructor
  · rintro ⟨x, h1, h2, h3⟩; exact ⟨x, fil_mem.2 ⟨h1, h2⟩, h3⟩
  · rintro ⟨x, h1, h3⟩; exact ⟨x, (fil_mem.1 h1).1, (fil_mem.1 h1).2, h3⟩
theorem ag_min {t : Town} : ∀ (n : Nat) (L : List Int) (y : List Int), L.length = n → ag t L = some y → (∃ x, x ∈ L ∧ y = lks t x) ∧ ∀ x, x ∈ L → y.length ≤ (lks t x).length := fun n => by
  induction n with
  | zero => intro L y h e; have : L = [] := List.eq_nil_of_length_eq_zero h; subst this; cases e
  | succ n ih =>
    intro L y h e
    have hne : L ≠ [] := by intro e; rw [e] at h; simp at h
    obtain ⟨B, z, rfl⟩ : ∃ B z, L = B ++ [z] := ⟨_, _, (List.dropLast_concat_getLast hne).symm⟩
    rw [ag_snoc] at e
    rcases hB : ag t B with _ | w
    · rw [hB] at e
      cases e
      have hB0 : B = [] := by
        rcases B with _ | ⟨x, r⟩
        · rfl
        · obtain ⟨y, hy⟩ := ag_cons (t := t) (x := x) (L := r)
          rw [hy] at hB; cases hB
      subst hB0
      exact ⟨⟨z, by simp, rfl⟩, fun x hx => by simp at hx; subst hx; exact Nat.le_refl _⟩
    · obtain ⟨⟨i, i1, i2⟩, i3⟩ := ih B w (by simpa using h) hB
      rw [hB] at e
      simp only [agS] at e
      by_cases q : betA (lks t z) w
      · rw [if_pos q] at e
        cases e
        have hle : (lks t z).length ≤ w.length := by unfold betA at q; omega
        refine ⟨⟨z, by simp, rfl⟩, fun x hx => ?_⟩
        rcases List.mem_append.1 hx with r | r
        · exact Nat.le_trans hle (i3 x r)
        · simp at r; subst r; exact Nat.le_refl _
      · rw [if_neg q] at e
        cases e
        refine ⟨⟨i, List.mem_append_left _ i1, i2⟩, fun x hx => ?_⟩
        rcases List.mem_append.1 hx with r | r
        · exact i3 x r
        · simp at r; subst r
          unfold betA at q; omega
theorem ag_fresh {t : Town} {b : Int} {l y : List Int} (h : ag t (lft t l b) = some y) : y = [] ↔ ∃ x, x ∈ lft t l b ∧ fr t x := by
  obtain ⟨⟨i, i1, i2⟩, i3⟩ := ag_min _ _ y rfl h
  constructor
  · rintro rfl
    exact ⟨i, i1, (fil_mem.1 i1).2.1, i2.symm⟩
  · rintro ⟨x, x1, x2⟩
    have := i3 x x1
    rw [x2.2] at this
    exact List.eq_nil_of_length_eq_zero (by simpa using this)
def allB (t : Town) (p : Nat) : Prop := ∀ q : Nat, q < p → isPage t q ∧ thg t q ≠ [] → 1 ≤ brs t q
theorem allB_zero {t : Town} : allB t 0 := fun q h => by omega
theorem allB_no {t : Town} {p : Nat} (h : ¬ (isPage t p ∧ thg t p ≠ [])) : allB t (p + 1) ↔ allB t p := by
  constructor
  · exact fun a q hq => a q (by omega)
  · intro a q hq hh
    rcases Nat.lt_or_ge q p with r | r
    · exact a q r hh
    · have : q = p := by omega
      subst this; exact absurd hh h
theorem allB_yes {t : Town} {p : Nat} (a : allB t p) (h : (isPage t p ∧ thg t p ≠ []) → 1 ≤ brs t p) : allB t (p + 1) := fun q hq hh => by
  rcases Nat.lt_or_ge q p with r | r
  · exact a q r hh
  · have : q = p := by omega
    subst this; exact h hh
theorem allB_fail {t : Town} {p : Nat} (h1 : isPage t p) (h2 : thg t p ≠ []) (h : ¬ 1 ≤ brs t p) : ¬ allB t (p + 1) := fun a => h (a p (by omega) ⟨h1, h2⟩)
theorem allB_old {t : Town} {p : Nat} (h : ¬ allB t p) : ¬ allB t (p + 1) := fun a => h fun q hq => a q (by omega)
theorem allB_safe {t : Town} (hv : validT t) : allB t t.ts.length ↔ safeP t := by
  rw [safe_brs hv]
  constructor
  · intro a p hp
    have h := pgs_mem.1 hp
    have hw := h.1.1
    unfold within at hw
    obtain ⟨n, rfl⟩ : ∃ n : Nat, p = n := ⟨p.toNat, by omega⟩
    exact a n (by omega) h
  · intro a q hq hh
    exact a q (pgs_mem.2 hh)
theorem los_rising {t : Town} {b : Int} : rising (los t b) 0 (t.ts.length - 1) := by
  have e : los t b = sel (fun i => pgP t i ∧ losP t b i) t.ts.length := fil_sel _
  rw [e]; exact sel_rising _ _
theorem sta_rising {t : Town} {b : Int} : rising (sta t b) 0 (t.ts.length - 1) := by
  have e : sta t b = sel (fun i => pgP t i ∧ staP t b i) t.ts.length := fil_sel _
  rw [e]; exact sel_rising _ _
set_option maxHeartbeats 4000000 in
theorem c14 (t : Town) (b : Int) : PC Tryd.prog 14 [hF t, .int .i64 b] (.bool true) := by
  have h16 := c16 t
  have h17 := c17
  by_cases h0 : readyT t
  case neg =>
    replace h16 := h16.fls h0
    refine PC.body Tryd.func14 (by kernel_rfl) rfl (by simp [Tryd.f14]) rfl ?_
    simp only [Tryd.f14]
    intro hlen
    simp only [go_sem, List.length_map, and_true, true_and] at hlen
    (repeat' (first | (with_reducible refine CV.same ?_; (try subst hY); (first | refine CV.gcc 26 fun Y hY => ?_ | refine CV.gc 26 fun Y hY => ?_ | skip); refine CV.run ?_) | ((with_reducible first | refine vcG_split ?_ ?_ | refine vcIf_split ?_ ?_ | refine vcQ_split ?_ ?_ | refine vcDG_split ?_ ?_) <;> intro hb <;> (try rw [hb]) <;> (try simp only [bq, bz, dtrue, dfalse] at hb) <;> (try simp only [within] at hb) <;> try (simp only [go_sem])) | refine And.intro (by first | exact trivial | omega | (simp only [I64]; omega)) ?_ | (with_reducible rw [vc_draw_eq]; first | (refine CV.draw (id := 26) sF13f_f14_26 mixed rfl (by kernel_rfl) ?_; delta sF13f_f14_26)) | ((with_reducible first | refine vp h16 ?_ ?_ | refine dc h16 ?_ ?_ | refine vp h17 ?_ ?_ | refine dc h17 ?_ ?_); focus (first | exact ⟨rfl, .inl ⟨by first | rfl | simp only [go_sem, AV.pureL, AV.pure], by first | (simp only [go_sem]; done) | rfl⟩⟩ | exact ⟨rfl, .inr ⟨rfl, by simp only [go_sem]⟩⟩)) | ((with_reducible first | refine dp h16 ?_ ?_ | refine dp h17 ?_ ?_); focus exact ⟨rfl, by first | rfl | simp only [go_sem, AV.pureL, AV.pure], by first | (simp only [go_sem]; done) | rfl⟩) | ((with_reducible first | refine ds h16 ?_ ?_ | refine ds h17 ?_ ?_); focus exact ⟨rfl, rfl⟩) | (simp only [go_sem])))
  replace h16 := h16.tru h0
  have hv := h0.2
  have h6 := ready_six h0
  have h20 := c20 t b
  by_cases hb : house t b
  case neg =>
    replace h20 := h20.fls hb
    refine PC.body Tryd.func14 (by kernel_rfl) rfl (by simp [Tryd.f14]) rfl ?_
    simp only [Tryd.f14]
    intro hlen
    simp only [go_sem, List.length_map, and_true, true_and] at hlen
    (repeat' (first | (with_reducible refine CV.same ?_; (try subst hY); (first | refine CV.gcc 26 fun Y hY => ?_ | refine CV.gc 26 fun Y hY => ?_ | skip); refine CV.run ?_) | ((with_reducible first | refine vcG_split ?_ ?_ | refine vcIf_split ?_ ?_ | refine vcQ_split ?_ ?_ | refine vcDG_split ?_ ?_) <;> intro hb <;> (try rw [hb]) <;> (try simp only [bq, bz, dtrue, dfalse] at hb) <;> (try simp only [within] at hb) <;> try (simp only [go_sem])) | refine And.intro (by first | exact trivial | omega | (simp only [I64]; omega)) ?_ | (with_reducible rw [vc_draw_eq]; first | (refine CV.draw (id := 26) sF13f_f14_26 mixed rfl (by kernel_rfl) ?_; delta sF13f_f14_26)) | ((with_reducible first | refine vp h16 ?_ ?_ | refine dc h16 ?_ ?_ | refine vp h20 ?_ ?_ | refine dc h20 ?_ ?_ | refine vp h17 ?_ ?_ | refine dc h17 ?_ ?_); focus (first | exact ⟨rfl, .inl ⟨by first | rfl | simp only [go_sem, AV.pureL, AV.pure], by first | (simp only [go_sem]; done) | rfl⟩⟩ | exact ⟨rfl, .inr ⟨rfl, by simp only [go_sem]⟩⟩)) | ((with_reducible first | refine dp h16 ?_ ?_ | refine dp h20 ?_ ?_ | refine dp h17 ?_ ?_); focus exact ⟨rfl, by first | rfl | simp only [go_sem, AV.pureL, AV.pure], by first | (simp only [go_sem]; done) | rfl⟩) | ((with_reducible first | refine ds h16 ?_ ?_ | refine ds h20 ?_ ?_ | refine ds h17 ?_ ?_); focus exact ⟨rfl, rfl⟩) | (simp only [go_sem])))
  replace h20 := h20.tru hb
  have hpl := hv.lp
  have hplI : ((t.pl.length : Nat) : Int) = t.ts.length := by omega
  have a1 := c23y t b hv hb
  have a2 := c25y t b hv hb
  have a3 := c28y t b hv hb
  have a4 := c38y t hv
  have r1 := (c58 (lft t (allI t.ts.length) b) 0 (t.pl.length - 1)).tru (by rw [lft_all, hplI]; exact sel_rising _ _)
  have r2 := (c58 (los t b) 0 (t.pl.length - 1)).tru (by rw [hplI]; exact los_rising)
  have r3 := (c58 (sta t b) 0 (t.pl.length - 1)).tru (by rw [hplI]; exact sta_rising)
  have c0 := c39_0
  have c3 := c39_3
  refine PC.body Tryd.func14 (by kernel_rfl) rfl (by simp [Tryd.f14]) rfl ?_
  simp only [Tryd.f14]
  intro hlen
  simp only [go_sem, List.length_map, and_true, true_and] at hlen
  (repeat' (first | (with_reducible refine CV.same ?_; (try subst hY); (first | refine CV.gcc 26 fun Y hY => ?_ | refine CV.gc 26 fun Y hY => ?_ | skip); refine CV.run ?_) | ((with_reducible first | refine vcG_split ?_ ?_ | refine vcIf_split ?_ ?_ | refine vcQ_split ?_ ?_ | refine vcDG_split ?_ ?_) <;> intro hb <;> (try rw [hb]) <;> (try simp only [bq, bz, dtrue, dfalse] at hb) <;> (try simp only [within] at hb) <;> try (simp only [go_sem, List.length_map])) | refine And.intro (by first | exact trivial | omega | (simp only [I64]; omega)) ?_ | (with_reducible rw [vc_draw_eq]; first | (refine CV.draw (id := 26) sF13f_f14_26 mixed rfl (by kernel_rfl) ?_; delta sF13f_f14_26)) | ((with_reducible first | refine vp h16 ?_ ?_ | refine dc h16 ?_ ?_ | refine vp h20 ?_ ?_ | refine dc h20 ?_ ?_ | refine vp a1 ?_ ?_ | refine dc a1 ?_ ?_ | refine vp a2 ?_ ?_ | refine dc a2 ?_ ?_ | refine vp a3 ?_ ?_ | refine dc a3 ?_ ?_ | refine vp a4 ?_ ?_ | refine dc a4 ?_ ?_ | refine vp r1 ?_ ?_ | refine dc r1 ?_ ?_ | refine vp r2 ?_ ?_ | refine dc r2 ?_ ?_ | refine vp r3 ?_ ?_ | refine dc r3 ?_ ?_); focus (first | exact ⟨rfl, .inl ⟨by first | rfl | simp only [go_sem, List.length_map, AV.pureL, AV.pure], by first | (simp only [go_sem, List.length_map]; done) | rfl⟩⟩ | exact ⟨rfl, .inr ⟨rfl, by simp only [go_sem, List.length_map]⟩⟩)) | ((with_reducible first | refine dp h16 ?_ ?_ | refine dp h20 ?_ ?_ | refine dp a1 ?_ ?_ | refine dp a2 ?_ ?_ | refine dp a3 ?_ ?_ | refine dp a4 ?_ ?_ | refine dp r1 ?_ ?_ | refine dp r2 ?_ ?_ | refine dp r3 ?_ ?_); focus exact ⟨rfl, by first | rfl | simp only [go_sem, List.length_map, AV.pureL, AV.pure], by first | (simp only [go_sem, List.length_map]; done) | rfl⟩) | ((with_reducible first | refine ds h16 ?_ ?_ | refine ds h20 ?_ ?_ | refine ds a1 ?_ ?_ | refine ds a2 ?_ ?_ | refine ds a3 ?_ ?_ | refine ds a4 ?_ ?_ | refine ds r1 ?_ ?_ | refine ds r2 ?_ ?_ | refine ds r3 ?_ ?_); focus exact ⟨rfl, rfl⟩) | (simp only [go_sem, List.length_map])))
  refine vc_for (fun p => ⟨[(15, .int .i64 p), (14, .bool (decide (allB t p))), (13, .int .i64 t.pl.length), (11, .bool (decide (safeP t))), (9, lN (sta t b)), (7, lN (los t b)), (5, lN (lft t (allI t.ts.length) b)), (4, .bool false), (2, .lp 0 0), (1, .int .i64 b)], [.box 28 (cT t) false]⟩) t.pl.length (fun _ => True) (by (first | exact wk_same (by (simp only [go_sem, Int.natCast_add, cn, Int.cast_ofNat_Int, decide_eq_true (allB_zero (t := t))])) | (refine wk_drop ?_ ?_ ?_ ?_ ?_ <;> (simp only [go_sem, Int.natCast_add, cn, Int.cast_ofNat_Int, decide_eq_true (allB_zero (t := t))])))) trivial ?_
  intro p hpj _
  rcases Nat.lt_or_ge p t.pl.length with hlt | hge
  · have hlt' : (p : Int) < t.pl.length := by omega
    have h44 := c44 t p
    by_cases hp : isPage t p
    · replace h44 := h44.tru hp
      have h45 := c45 t hv.things (by omega) p
      have h57 := c57y t p hv hp
      have h30 := c30y t b p hv hb hp
      have hLr : ∀ y, y ∈ thg t p → 0 ≤ y ∧ y < t.ts.length := fun y hy => by have := thg_mem.1 hy; omega
      have hyf := fun (y : List Int) (h : ag t (lft t (thg t p) b) = some y) => ag_fresh h
      have hLl := thg_len (t := t) (p := p)
      obtain ⟨l, hle⟩ : ∃ l, thg t p = l := ⟨_, rfl⟩
      rw [hle] at h45 h57 h30 hLr hyf hLl
      by_cases hl : l = []
      · rw [if_pos hl] at h57
        have hll : ((l.length : Nat) : Int) = 0 := by rw [hl]; rfl
        have hag : ag t (lft t l b) = none := by rw [hl]; rfl
        rw [hag] at h30
        simp only [resA] at h30
        (repeat' (first | (with_reducible refine CV.same ?_; (try subst hY); (first | refine CV.gcc 26 fun Y hY => ?_ | refine CV.gc 26 fun Y hY => ?_ | skip); refine CV.run ?_) | ((with_reducible first | refine vcG_split ?_ ?_ | refine vcIf_split ?_ ?_ | refine vcQ_split ?_ ?_ | refine vcDG_split ?_ ?_) <;> intro hb <;> (try rw [hb]) <;> (try simp only [bq, bz, dtrue, dfalse] at hb) <;> (try simp only [within] at hb) <;> try (simp only [go_sem, hlt', hll, List.length_map])) | refine And.intro (by first | exact trivial | omega | (simp only [I64]; omega)) ?_ | (with_reducible rw [vc_draw_eq]; first | (refine CV.draw (id := 26) sF13f_f14_26 mixed rfl (by kernel_rfl) ?_; delta sF13f_f14_26)) | ((with_reducible first | refine vp h44 ?_ ?_ | refine dc h44 ?_ ?_ | refine vp h45 ?_ ?_ | refine dc h45 ?_ ?_ | refine vp h57 ?_ ?_ | refine dc h57 ?_ ?_ | refine vp h30 ?_ ?_ | refine dc h30 ?_ ?_ | refine vp c0 ?_ ?_ | refine dc c0 ?_ ?_ | refine vp c3 ?_ ?_ | refine dc c3 ?_ ?_); focus (first | exact ⟨rfl, .inl ⟨by first | rfl | simp only [go_sem, hlt', hll, List.length_map, AV.pureL, AV.pure], by first | (simp only [go_sem, hlt', hll, List.length_map]; done) | rfl⟩⟩ | exact ⟨rfl, .inr ⟨rfl, by simp only [go_sem, hlt', hll, List.length_map]⟩⟩)) | ((with_reducible first | refine dp h44 ?_ ?_ | refine dp h45 ?_ ?_ | refine dp h57 ?_ ?_ | refine dp h30 ?_ ?_ | refine dp c0 ?_ ?_ | refine dp c3 ?_ ?_); focus exact ⟨rfl, by first | rfl | simp only [go_sem, hlt', hll, List.length_map, AV.pureL, AV.pure], by first | (simp only [go_sem, hlt', hll, List.length_map]; done) | rfl⟩) | ((with_reducible first | refine ds h44 ?_ ?_ | refine ds h45 ?_ ?_ | refine ds h57 ?_ ?_ | refine ds h30 ?_ ?_ | refine ds c0 ?_ ?_ | refine ds c3 ?_ ?_); focus exact ⟨rfl, rfl⟩) | (simp only [go_sem, hlt', hll, List.length_map])))
        refine vc_for (fun k => ⟨[(23, .int .i64 k), (22, .bool (decide (anyTo (fun x => stays t b x ∧ fr t x) l k))), (21, .bool (decide (anyTo (stays t b) l k))), (20, .int .i64 3), (19, .nilS), (18, .int .i64 3), (17, .int .i64 0), (16, lN l), (15, .int .i64 p), (14, .bool (decide (allB t p))), (13, .int .i64 t.pl.length), (11, .bool (decide (safeP t))), (9, lN (sta t b)), (7, lN (los t b)), (5, lN (lft t (allI t.ts.length) b)), (4, .bool false), (2, .lp 0 0), (1, .int .i64 b)], [.box 28 (cT t) false]⟩) l.length (fun _ => True) (by (first | exact wk_same (by (simp only [go_sem, Int.natCast_add, cn, Int.cast_ofNat_Int, decide_eq_false any_zero])) | (refine wk_drop ?_ ?_ ?_ ?_ ?_ <;> (simp only [go_sem, Int.natCast_add, cn, Int.cast_ofNat_Int, decide_eq_false any_zero])))) trivial ?_
        intro k hk _
        rcases Nat.lt_or_ge k l.length with hkl | hkg
        · exfalso; omega
        · have hkg' : ¬ (k : Int) < l.length := by omega
          have hk1 : anyTo (stays t b) l k ↔ lft t l b ≠ [] := left_some hkg
          have hk2 : anyTo (fun x => stays t b x ∧ fr t x) l k ↔ ∃ x, x ∈ lft t l b ∧ fr t x := left_fr hkg
          have hL0 : lft t l b = [] := by rw [hl]; rfl
          have n1 : ¬ anyTo (stays t b) l k := fun h => hk1.1 h hL0
          have n2 : ¬ anyTo (fun x => stays t b x ∧ fr t x) l k := fun h => by obtain ⟨x, h, _⟩ := hk2.1 h; rw [hL0] at h; simp at h
          rw [decide_eq_false n1, decide_eq_false n2]
          have h56a := (c56 (los t b) p).fls fun h => (pgs_mem.1 (fil_mem.1 h).1).2 (hle.trans hl)
          have h56b := (c56 (sta t b) p).fls fun h => (pgs_mem.1 (fil_mem.1 h).1).2 (hle.trans hl)
          have hkg0 : ¬ (k : Int) < 0 := by omega
          by_cases c1 : allB t p
          · rw [decide_eq_true c1]
            have hal := decide_eq_true ((allB_no (t := t) (p := p) fun h => h.2 (hle.trans hl)).2 c1)
            (repeat' (first | (with_reducible refine CV.same ?_; (try subst hY); (first | refine CV.gcc 26 fun Y hY => ?_ | refine CV.gc 26 fun Y hY => ?_ | skip); refine CV.run ?_) | ((with_reducible first | refine vcG_split ?_ ?_ | refine vcIf_split ?_ ?_ | refine vcQ_split ?_ ?_ | refine vcDG_split ?_ ?_) <;> intro hb <;> (try rw [hb]) <;> (try simp only [bq, bz, dtrue, dfalse] at hb) <;> (try simp only [within] at hb) <;> try (simp only [go_sem, hkg0, hll, List.length_map])) | refine And.intro (by first | exact trivial | omega | (simp only [I64]; omega)) ?_ | (with_reducible rw [vc_draw_eq]; first | (refine CV.draw (id := 26) sF13f_f14_26 mixed rfl (by kernel_rfl) ?_; delta sF13f_f14_26)) | ((with_reducible first | refine vp h56a ?_ ?_ | refine dc h56a ?_ ?_ | refine vp h56b ?_ ?_ | refine dc h56b ?_ ?_); focus (first | exact ⟨rfl, .inl ⟨by first | rfl | simp only [go_sem, hkg0, hll, List.length_map, AV.pureL, AV.pure], by first | (simp only [go_sem, hkg0, hll, List.length_map]; done) | rfl⟩⟩ | exact ⟨rfl, .inr ⟨rfl, by simp only [go_sem, hkg0, hll, List.length_map]⟩⟩)) | ((with_reducible first | refine dp h56a ?_ ?_ | refine dp h56b ?_ ?_); focus exact ⟨rfl, by first | rfl | simp only [go_sem, hkg0, hll, List.length_map, AV.pureL, AV.pure], by first | (simp only [go_sem, hkg0, hll, List.length_map]; done) | rfl⟩) | ((with_reducible first | refine ds h56a ?_ ?_ | refine ds h56b ?_ ?_); focus exact ⟨rfl, rfl⟩) | (simp only [go_sem, hkg0, hll, List.length_map])))
            all_goals exact (by (first | exact wk_same (by (simp only [go_sem, Int.natCast_add, cn, Int.cast_ofNat_Int, hal])) | (refine wk_drop ?_ ?_ ?_ ?_ ?_ <;> (simp only [go_sem, Int.natCast_add, cn, Int.cast_ofNat_Int, hal]))))
          · rw [decide_eq_false c1]
            have hal := decide_eq_false (fun h => c1 ((allB_no (t := t) (p := p) fun h => h.2 (hle.trans hl)).1 h))
            (repeat' (first | (with_reducible refine CV.same ?_; (try subst hY); (first | refine CV.gcc 26 fun Y hY => ?_ | refine CV.gc 26 fun Y hY => ?_ | skip); refine CV.run ?_) | ((with_reducible first | refine vcG_split ?_ ?_ | refine vcIf_split ?_ ?_ | refine vcQ_split ?_ ?_ | refine vcDG_split ?_ ?_) <;> intro hb <;> (try rw [hb]) <;> (try simp only [bq, bz, dtrue, dfalse] at hb) <;> (try simp only [within] at hb) <;> try (simp only [go_sem, hkg0, hll, List.length_map])) | refine And.intro (by first | exact trivial | omega | (simp only [I64]; omega)) ?_ | (with_reducible rw [vc_draw_eq]; first | (refine CV.draw (id := 26) sF13f_f14_26 mixed rfl (by kernel_rfl) ?_; delta sF13f_f14_26)) | ((with_reducible first | refine vp h56a ?_ ?_ | refine dc h56a ?_ ?_ | refine vp h56b ?_ ?_ | refine dc h56b ?_ ?_); focus (first | exact ⟨rfl, .inl ⟨by first | rfl | simp only [go_sem, hkg0, hll, List.length_map, AV.pureL, AV.pure], by first | (simp only [go_sem, hkg0, hll, List.length_map]; done) | rfl⟩⟩ | exact ⟨rfl, .inr ⟨rfl, by simp only [go_sem, hkg0, hll, List.length_map]⟩⟩)) | ((with_reducible first | refine dp h56a ?_ ?_ | refine dp h56b ?_ ?_); focus exact ⟨rfl, by first | rfl | simp only [go_sem, hkg0, hll, List.length_map, AV.pureL, AV.pure], by first | (simp only [go_sem, hkg0, hll, List.length_map]; done) | rfl⟩) | ((with_reducible first | refine ds h56a ?_ ?_ | refine ds h56b ?_ ?_); focus exact ⟨rfl, rfl⟩) | (simp only [go_sem, hkg0, hll, List.length_map])))
            all_goals exact (by (first | exact wk_same (by (simp only [go_sem, Int.natCast_add, cn, Int.cast_ofNat_Int, hal])) | (refine wk_drop ?_ ?_ ?_ ?_ ?_ <;> (simp only [go_sem, Int.natCast_add, cn, Int.cast_ofNat_Int, hal]))))
      · rw [if_neg hl] at h57
        have hll0 : ¬ ((l.length : Nat) : Int) = 0 := fun e => hl (List.eq_nil_of_length_eq_zero (by omega))
        have hll : (0 : Int) < l.length := by omega
        by_cases hL0 : lft t l b = []
        · have hag : ag t (lft t l b) = none := by rw [hL0]; rfl
          rw [hag] at h30
          simp only [resA] at h30
          (repeat' (first | (with_reducible refine CV.same ?_; (try subst hY); (first | refine CV.gcc 26 fun Y hY => ?_ | refine CV.gc 26 fun Y hY => ?_ | skip); refine CV.run ?_) | ((with_reducible first | refine vcG_split ?_ ?_ | refine vcIf_split ?_ ?_ | refine vcQ_split ?_ ?_ | refine vcDG_split ?_ ?_) <;> intro hb <;> (try rw [hb]) <;> (try simp only [bq, bz, dtrue, dfalse] at hb) <;> (try simp only [within] at hb) <;> try (simp only [go_sem, hlt', hll, List.length_map])) | refine And.intro (by first | exact trivial | omega | (simp only [I64]; omega)) ?_ | (with_reducible rw [vc_draw_eq]; first | (refine CV.draw (id := 26) sF13f_f14_26 mixed rfl (by kernel_rfl) ?_; delta sF13f_f14_26)) | ((with_reducible first | refine vp h44 ?_ ?_ | refine dc h44 ?_ ?_ | refine vp h45 ?_ ?_ | refine dc h45 ?_ ?_ | refine vp h57 ?_ ?_ | refine dc h57 ?_ ?_ | refine vp h30 ?_ ?_ | refine dc h30 ?_ ?_ | refine vp c0 ?_ ?_ | refine dc c0 ?_ ?_ | refine vp c3 ?_ ?_ | refine dc c3 ?_ ?_); focus (first | exact ⟨rfl, .inl ⟨by first | rfl | simp only [go_sem, hlt', hll, List.length_map, AV.pureL, AV.pure], by first | (simp only [go_sem, hlt', hll, List.length_map]; done) | rfl⟩⟩ | exact ⟨rfl, .inr ⟨rfl, by simp only [go_sem, hlt', hll, List.length_map]⟩⟩)) | ((with_reducible first | refine dp h44 ?_ ?_ | refine dp h45 ?_ ?_ | refine dp h57 ?_ ?_ | refine dp h30 ?_ ?_ | refine dp c0 ?_ ?_ | refine dp c3 ?_ ?_); focus exact ⟨rfl, by first | rfl | simp only [go_sem, hlt', hll, List.length_map, AV.pureL, AV.pure], by first | (simp only [go_sem, hlt', hll, List.length_map]; done) | rfl⟩) | ((with_reducible first | refine ds h44 ?_ ?_ | refine ds h45 ?_ ?_ | refine ds h57 ?_ ?_ | refine ds h30 ?_ ?_ | refine ds c0 ?_ ?_ | refine ds c3 ?_ ?_); focus exact ⟨rfl, rfl⟩) | (simp only [go_sem, hlt', hll, List.length_map])))
          refine vc_for (fun k => ⟨[(23, .int .i64 k), (22, .bool (decide (anyTo (fun x => stays t b x ∧ fr t x) l k))), (21, .bool (decide (anyTo (stays t b) l k))), (20, .int .i64 3), (19, .nilS), (18, .int .i64 0), (17, .int .i64 (brs t p)), (16, lN l), (15, .int .i64 p), (14, .bool (decide (allB t p))), (13, .int .i64 t.pl.length), (11, .bool (decide (safeP t))), (9, lN (sta t b)), (7, lN (los t b)), (5, lN (lft t (allI t.ts.length) b)), (4, .bool false), (2, .lp 0 0), (1, .int .i64 b)], [.box 28 (cT t) false]⟩) l.length (fun _ => True) (by (first | exact wk_same (by (simp only [go_sem, Int.natCast_add, cn, Int.cast_ofNat_Int, decide_eq_false any_zero])) | (refine wk_drop ?_ ?_ ?_ ?_ ?_ <;> (simp only [go_sem, Int.natCast_add, cn, Int.cast_ofNat_Int, decide_eq_false any_zero])))) trivial ?_
          intro k hk _
          rcases Nat.lt_or_ge k l.length with hkl | hkg
          · have hkl' : (k : Int) < l.length := by omega
            obtain ⟨x, hx⟩ := get_of hkl
            have hxr := hLr x (List.mem_of_getElem? hx)
            have h46 := c46y t x hv (by unfold thing within; omega)
            have h56 := c56 (lft t (allI t.ts.length) b) x
            have hin := left_in (t := t) (b := b) (x := x) hxr.1 hxr.2
            by_cases b1 : stays t b x
            · replace h56 := h56.tru (hin.2 b1)
              have e1 := decide_eq_true (any_new (q := stays t b) hx b1)
              by_cases b2 : fr t x
              · rw [decide_eq_true b2] at h46
                have e2 := decide_eq_true (any_new (q := fun x => stays t b x ∧ fr t x) hx ⟨b1, b2⟩)
                by_cases b3 : anyTo (fun x => stays t b x ∧ fr t x) l k
                · rw [decide_eq_true b3]
                  (repeat' (first | (with_reducible refine CV.same ?_; (try subst hY); (first | refine CV.gcc 26 fun Y hY => ?_ | refine CV.gc 26 fun Y hY => ?_ | skip); refine CV.run ?_) | ((with_reducible first | refine vcG_split ?_ ?_ | refine vcIf_split ?_ ?_ | refine vcQ_split ?_ ?_ | refine vcDG_split ?_ ?_) <;> intro hb <;> (try rw [hb]) <;> (try simp only [bq, bz, dtrue, dfalse] at hb) <;> (try simp only [within] at hb) <;> try (simp only [go_sem, hkl', hx, encN, List.length_map])) | refine And.intro (by first | exact trivial | omega | (simp only [I64]; omega)) ?_ | (with_reducible rw [vc_draw_eq]; first | (refine CV.draw (id := 26) sF13f_f14_26 mixed rfl (by kernel_rfl) ?_; delta sF13f_f14_26)) | ((with_reducible first | refine vp h46 ?_ ?_ | refine dc h46 ?_ ?_ | refine vp h56 ?_ ?_ | refine dc h56 ?_ ?_); focus (first | exact ⟨rfl, .inl ⟨by first | rfl | simp only [go_sem, hkl', hx, encN, List.length_map, AV.pureL, AV.pure], by first | (simp only [go_sem, hkl', hx, encN, List.length_map]; done) | rfl⟩⟩ | exact ⟨rfl, .inr ⟨rfl, by simp only [go_sem, hkl', hx, encN, List.length_map]⟩⟩)) | ((with_reducible first | refine dp h46 ?_ ?_ | refine dp h56 ?_ ?_); focus exact ⟨rfl, by first | rfl | simp only [go_sem, hkl', hx, encN, List.length_map, AV.pureL, AV.pure], by first | (simp only [go_sem, hkl', hx, encN, List.length_map]; done) | rfl⟩) | ((with_reducible first | refine ds h46 ?_ ?_ | refine ds h56 ?_ ?_); focus exact ⟨rfl, rfl⟩) | (simp only [go_sem, hkl', hx, encN, List.length_map])))
                  all_goals exact (by (first | exact wk_same (by (simp only [go_sem, Int.natCast_add, cn, Int.cast_ofNat_Int, e1, e2])) | (refine wk_drop ?_ ?_ ?_ ?_ ?_ <;> (simp only [go_sem, Int.natCast_add, cn, Int.cast_ofNat_Int, e1, e2]))))
                · rw [decide_eq_false b3]
                  (repeat' (first | (with_reducible refine CV.same ?_; (try subst hY); (first | refine CV.gcc 26 fun Y hY => ?_ | refine CV.gc 26 fun Y hY => ?_ | skip); refine CV.run ?_) | ((with_reducible first | refine vcG_split ?_ ?_ | refine vcIf_split ?_ ?_ | refine vcQ_split ?_ ?_ | refine vcDG_split ?_ ?_) <;> intro hb <;> (try rw [hb]) <;> (try simp only [bq, bz, dtrue, dfalse] at hb) <;> (try simp only [within] at hb) <;> try (simp only [go_sem, hkl', hx, encN, List.length_map])) | refine And.intro (by first | exact trivial | omega | (simp only [I64]; omega)) ?_ | (with_reducible rw [vc_draw_eq]; first | (refine CV.draw (id := 26) sF13f_f14_26 mixed rfl (by kernel_rfl) ?_; delta sF13f_f14_26)) | ((with_reducible first | refine vp h46 ?_ ?_ | refine dc h46 ?_ ?_ | refine vp h56 ?_ ?_ | refine dc h56 ?_ ?_); focus (first | exact ⟨rfl, .inl ⟨by first | rfl | simp only [go_sem, hkl', hx, encN, List.length_map, AV.pureL, AV.pure], by first | (simp only [go_sem, hkl', hx, encN, List.length_map]; done) | rfl⟩⟩ | exact ⟨rfl, .inr ⟨rfl, by simp only [go_sem, hkl', hx, encN, List.length_map]⟩⟩)) | ((with_reducible first | refine dp h46 ?_ ?_ | refine dp h56 ?_ ?_); focus exact ⟨rfl, by first | rfl | simp only [go_sem, hkl', hx, encN, List.length_map, AV.pureL, AV.pure], by first | (simp only [go_sem, hkl', hx, encN, List.length_map]; done) | rfl⟩) | ((with_reducible first | refine ds h46 ?_ ?_ | refine ds h56 ?_ ?_); focus exact ⟨rfl, rfl⟩) | (simp only [go_sem, hkl', hx, encN, List.length_map])))
                  all_goals exact (by (first | exact wk_same (by (simp only [go_sem, Int.natCast_add, cn, Int.cast_ofNat_Int, e1, e2])) | (refine wk_drop ?_ ?_ ?_ ?_ ?_ <;> (simp only [go_sem, Int.natCast_add, cn, Int.cast_ofNat_Int, e1, e2]))))
              · rw [decide_eq_false b2] at h46
                by_cases b3 : anyTo (fun x => stays t b x ∧ fr t x) l k
                · have e2 := decide_eq_true (any_old b3)
                  rw [decide_eq_true b3]
                  (repeat' (first | (with_reducible refine CV.same ?_; (try subst hY); (first | refine CV.gcc 26 fun Y hY => ?_ | refine CV.gc 26 fun Y hY => ?_ | skip); refine CV.run ?_) | ((with_reducible first | refine vcG_split ?_ ?_ | refine vcIf_split ?_ ?_ | refine vcQ_split ?_ ?_ | refine vcDG_split ?_ ?_) <;> intro hb <;> (try rw [hb]) <;> (try simp only [bq, bz, dtrue, dfalse] at hb) <;> (try simp only [within] at hb) <;> try (simp only [go_sem, hkl', hx, encN, List.length_map])) | refine And.intro (by first | exact trivial | omega | (simp only [I64]; omega)) ?_ | (with_reducible rw [vc_draw_eq]; first | (refine CV.draw (id := 26) sF13f_f14_26 mixed rfl (by kernel_rfl) ?_; delta sF13f_f14_26)) | ((with_reducible first | refine vp h46 ?_ ?_ | refine dc h46 ?_ ?_ | refine vp h56 ?_ ?_ | refine dc h56 ?_ ?_); focus (first | exact ⟨rfl, .inl ⟨by first | rfl | simp only [go_sem, hkl', hx, encN, List.length_map, AV.pureL, AV.pure], by first | (simp only [go_sem, hkl', hx, encN, List.length_map]; done) | rfl⟩⟩ | exact ⟨rfl, .inr ⟨rfl, by simp only [go_sem, hkl', hx, encN, List.length_map]⟩⟩)) | ((with_reducible first | refine dp h46 ?_ ?_ | refine dp h56 ?_ ?_); focus exact ⟨rfl, by first | rfl | simp only [go_sem, hkl', hx, encN, List.length_map, AV.pureL, AV.pure], by first | (simp only [go_sem, hkl', hx, encN, List.length_map]; done) | rfl⟩) | ((with_reducible first | refine ds h46 ?_ ?_ | refine ds h56 ?_ ?_); focus exact ⟨rfl, rfl⟩) | (simp only [go_sem, hkl', hx, encN, List.length_map])))
                  all_goals exact (by (first | exact wk_same (by (simp only [go_sem, Int.natCast_add, cn, Int.cast_ofNat_Int, e1, e2])) | (refine wk_drop ?_ ?_ ?_ ?_ ?_ <;> (simp only [go_sem, Int.natCast_add, cn, Int.cast_ofNat_Int, e1, e2]))))
                · have e2 := decide_eq_false (any_no (q := fun x => stays t b x ∧ fr t x) hx (fun h => b2 h.2) b3)
                  rw [decide_eq_false b3]
                  (repeat' (first | (with_reducible refine CV.same ?_; (try subst hY); (first | refine CV.gcc 26 fun Y hY => ?_ | refine CV.gc 26 fun Y hY => ?_ | skip); refine CV.run ?_) | ((with_reducible first | refine vcG_split ?_ ?_ | refine vcIf_split ?_ ?_ | refine vcQ_split ?_ ?_ | refine vcDG_split ?_ ?_) <;> intro hb <;> (try rw [hb]) <;> (try simp only [bq, bz, dtrue, dfalse] at hb) <;> (try simp only [within] at hb) <;> try (simp only [go_sem, hkl', hx, encN, List.length_map])) | refine And.intro (by first | exact trivial | omega | (simp only [I64]; omega)) ?_ | (with_reducible rw [vc_draw_eq]; first | (refine CV.draw (id := 26) sF13f_f14_26 mixed rfl (by kernel_rfl) ?_; delta sF13f_f14_26)) | ((with_reducible first | refine vp h46 ?_ ?_ | refine dc h46 ?_ ?_ | refine vp h56 ?_ ?_ | refine dc h56 ?_ ?_); focus (first | exact ⟨rfl, .inl ⟨by first | rfl | simp only [go_sem, hkl', hx, encN, List.length_map, AV.pureL, AV.pure], by first | (simp only [go_sem, hkl', hx, encN, List.length_map]; done) | rfl⟩⟩ | exact ⟨rfl, .inr ⟨rfl, by simp only [go_sem, hkl', hx, encN, List.length_map]⟩⟩)) | ((with_reducible first | refine dp h46 ?_ ?_ | refine dp h56 ?_ ?_); focus exact ⟨rfl, by first | rfl | simp only [go_sem, hkl', hx, encN, List.length_map, AV.pureL, AV.pure], by first | (simp only [go_sem, hkl', hx, encN, List.length_map]; done) | rfl⟩) | ((with_reducible first | refine ds h46 ?_ ?_ | refine ds h56 ?_ ?_); focus exact ⟨rfl, rfl⟩) | (simp only [go_sem, hkl', hx, encN, List.length_map])))
                  all_goals exact (by (first | exact wk_same (by (simp only [go_sem, Int.natCast_add, cn, Int.cast_ofNat_Int, e1, e2])) | (refine wk_drop ?_ ?_ ?_ ?_ ?_ <;> (simp only [go_sem, Int.natCast_add, cn, Int.cast_ofNat_Int, e1, e2]))))
            · replace h56 := h56.fls fun h => b1 (hin.1 h)
              have e1 : decide (anyTo (stays t b) l (k + 1)) = decide (anyTo (stays t b) l k) := decide_eq_decide.2 ⟨fun h => Classical.byContradiction fun h2 => any_no hx b1 h2 h, any_old⟩
              have e2 : decide (anyTo (fun x => stays t b x ∧ fr t x) l (k + 1)) = decide (anyTo (fun x => stays t b x ∧ fr t x) l k) := decide_eq_decide.2 ⟨fun h => Classical.byContradiction fun h2 => any_no (q := fun x => stays t b x ∧ fr t x) hx (fun h => b1 h.1) h2 h, any_old⟩
              (repeat' (first | (with_reducible refine CV.same ?_; (try subst hY); (first | refine CV.gcc 26 fun Y hY => ?_ | refine CV.gc 26 fun Y hY => ?_ | skip); refine CV.run ?_) | ((with_reducible first | refine vcG_split ?_ ?_ | refine vcIf_split ?_ ?_ | refine vcQ_split ?_ ?_ | refine vcDG_split ?_ ?_) <;> intro hb <;> (try rw [hb]) <;> (try simp only [bq, bz, dtrue, dfalse] at hb) <;> (try simp only [within] at hb) <;> try (simp only [go_sem, hkl', hx, encN, List.length_map])) | refine And.intro (by first | exact trivial | omega | (simp only [I64]; omega)) ?_ | (with_reducible rw [vc_draw_eq]; first | (refine CV.draw (id := 26) sF13f_f14_26 mixed rfl (by kernel_rfl) ?_; delta sF13f_f14_26)) | ((with_reducible first | refine vp h46 ?_ ?_ | refine dc h46 ?_ ?_ | refine vp h56 ?_ ?_ | refine dc h56 ?_ ?_); focus (first | exact ⟨rfl, .inl ⟨by first | rfl | simp only [go_sem, hkl', hx, encN, List.length_map, AV.pureL, AV.pure], by first | (simp only [go_sem, hkl', hx, encN, List.length_map]; done) | rfl⟩⟩ | exact ⟨rfl, .inr ⟨rfl, by simp only [go_sem, hkl', hx, encN, List.length_map]⟩⟩)) | ((with_reducible first | refine dp h46 ?_ ?_ | refine dp h56 ?_ ?_); focus exact ⟨rfl, by first | rfl | simp only [go_sem, hkl', hx, encN, List.length_map, AV.pureL, AV.pure], by first | (simp only [go_sem, hkl', hx, encN, List.length_map]; done) | rfl⟩) | ((with_reducible first | refine ds h46 ?_ ?_ | refine ds h56 ?_ ?_); focus exact ⟨rfl, rfl⟩) | (simp only [go_sem, hkl', hx, encN, List.length_map])))
              all_goals exact (by (first | exact wk_same (by (simp only [go_sem, Int.natCast_add, cn, Int.cast_ofNat_Int, e1, e2])) | (refine wk_drop ?_ ?_ ?_ ?_ ?_ <;> (simp only [go_sem, Int.natCast_add, cn, Int.cast_ofNat_Int, e1, e2]))))
          · have hkg' : ¬ (k : Int) < l.length := by omega
            have hk1 : anyTo (stays t b) l k ↔ lft t l b ≠ [] := left_some hkg
            have hk2 : anyTo (fun x => stays t b x ∧ fr t x) l k ↔ ∃ x, x ∈ lft t l b ∧ fr t x := left_fr hkg
            have n1 : ¬ anyTo (stays t b) l k := fun h => hk1.1 h hL0
            have n2 : ¬ anyTo (fun x => stays t b x ∧ fr t x) l k := fun h => by obtain ⟨x, h, _⟩ := hk2.1 h; rw [hL0] at h; simp at h
            rw [decide_eq_false n1, decide_eq_false n2]
            have h56a := (c56 (los t b) p).tru (fil_mem.2 ⟨pgs_mem.2 ⟨hp, by rw [hle]; exact hl⟩, show lft t (thg t p) b = [] by rw [hle]; exact hL0⟩)
            have h56b := (c56 (sta t b) p).fls fun h => (fil_mem.1 h).2.1 (by rw [hle]; exact hL0)
            by_cases c1 : allB t p
            · rw [decide_eq_true c1]
              by_cases c2 : 1 ≤ brs t p
              · have hal := decide_eq_true (allB_yes c1 fun _ => c2)
                (repeat' (first | (with_reducible refine CV.same ?_; (try subst hY); (first | refine CV.gcc 26 fun Y hY => ?_ | refine CV.gc 26 fun Y hY => ?_ | skip); refine CV.run ?_) | ((with_reducible first | refine vcG_split ?_ ?_ | refine vcIf_split ?_ ?_ | refine vcQ_split ?_ ?_ | refine vcDG_split ?_ ?_) <;> intro hb <;> (try rw [hb]) <;> (try simp only [bq, bz, dtrue, dfalse] at hb) <;> (try simp only [within] at hb) <;> try (simp only [go_sem, hkg', hll, c2, List.length_map])) | refine And.intro (by first | exact trivial | omega | (simp only [I64]; omega)) ?_ | (with_reducible rw [vc_draw_eq]; first | (refine CV.draw (id := 26) sF13f_f14_26 mixed rfl (by kernel_rfl) ?_; delta sF13f_f14_26)) | ((with_reducible first | refine vp h56a ?_ ?_ | refine dc h56a ?_ ?_ | refine vp h56b ?_ ?_ | refine dc h56b ?_ ?_); focus (first | exact ⟨rfl, .inl ⟨by first | rfl | simp only [go_sem, hkg', hll, c2, List.length_map, AV.pureL, AV.pure], by first | (simp only [go_sem, hkg', hll, c2, List.length_map]; done) | rfl⟩⟩ | exact ⟨rfl, .inr ⟨rfl, by simp only [go_sem, hkg', hll, c2, List.length_map]⟩⟩)) | ((with_reducible first | refine dp h56a ?_ ?_ | refine dp h56b ?_ ?_); focus exact ⟨rfl, by first | rfl | simp only [go_sem, hkg', hll, c2, List.length_map, AV.pureL, AV.pure], by first | (simp only [go_sem, hkg', hll, c2, List.length_map]; done) | rfl⟩) | ((with_reducible first | refine ds h56a ?_ ?_ | refine ds h56b ?_ ?_); focus exact ⟨rfl, rfl⟩) | (simp only [go_sem, hkg', hll, c2, List.length_map])))
                all_goals exact (by (first | exact wk_same (by (simp only [go_sem, Int.natCast_add, cn, Int.cast_ofNat_Int, hal])) | (refine wk_drop ?_ ?_ ?_ ?_ ?_ <;> (simp only [go_sem, Int.natCast_add, cn, Int.cast_ofNat_Int, hal]))))
              · have hal := decide_eq_false (allB_fail (t := t) (p := p) hp (by rw [hle]; exact hl) c2)
                (repeat' (first | (with_reducible refine CV.same ?_; (try subst hY); (first | refine CV.gcc 26 fun Y hY => ?_ | refine CV.gc 26 fun Y hY => ?_ | skip); refine CV.run ?_) | ((with_reducible first | refine vcG_split ?_ ?_ | refine vcIf_split ?_ ?_ | refine vcQ_split ?_ ?_ | refine vcDG_split ?_ ?_) <;> intro hb <;> (try rw [hb]) <;> (try simp only [bq, bz, dtrue, dfalse] at hb) <;> (try simp only [within] at hb) <;> try (simp only [go_sem, hkg', hll, c2, List.length_map])) | refine And.intro (by first | exact trivial | omega | (simp only [I64]; omega)) ?_ | (with_reducible rw [vc_draw_eq]; first | (refine CV.draw (id := 26) sF13f_f14_26 mixed rfl (by kernel_rfl) ?_; delta sF13f_f14_26)) | ((with_reducible first | refine vp h56a ?_ ?_ | refine dc h56a ?_ ?_ | refine vp h56b ?_ ?_ | refine dc h56b ?_ ?_); focus (first | exact ⟨rfl, .inl ⟨by first | rfl | simp only [go_sem, hkg', hll, c2, List.length_map, AV.pureL, AV.pure], by first | (simp only [go_sem, hkg', hll, c2, List.length_map]; done) | rfl⟩⟩ | exact ⟨rfl, .inr ⟨rfl, by simp only [go_sem, hkg', hll, c2, List.length_map]⟩⟩)) | ((with_reducible first | refine dp h56a ?_ ?_ | refine dp h56b ?_ ?_); focus exact ⟨rfl, by first | rfl | simp only [go_sem, hkg', hll, c2, List.length_map, AV.pureL, AV.pure], by first | (simp only [go_sem, hkg', hll, c2, List.length_map]; done) | rfl⟩) | ((with_reducible first | refine ds h56a ?_ ?_ | refine ds h56b ?_ ?_); focus exact ⟨rfl, rfl⟩) | (simp only [go_sem, hkg', hll, c2, List.length_map])))
                all_goals exact (by (first | exact wk_same (by (simp only [go_sem, Int.natCast_add, cn, Int.cast_ofNat_Int, hal])) | (refine wk_drop ?_ ?_ ?_ ?_ ?_ <;> (simp only [go_sem, Int.natCast_add, cn, Int.cast_ofNat_Int, hal]))))
            · rw [decide_eq_false c1]
              have hal := decide_eq_false (allB_old (t := t) (p := p) c1)
              (repeat' (first | (with_reducible refine CV.same ?_; (try subst hY); (first | refine CV.gcc 26 fun Y hY => ?_ | refine CV.gc 26 fun Y hY => ?_ | skip); refine CV.run ?_) | ((with_reducible first | refine vcG_split ?_ ?_ | refine vcIf_split ?_ ?_ | refine vcQ_split ?_ ?_ | refine vcDG_split ?_ ?_) <;> intro hb <;> (try rw [hb]) <;> (try simp only [bq, bz, dtrue, dfalse] at hb) <;> (try simp only [within] at hb) <;> try (simp only [go_sem, hkg', hll, List.length_map])) | refine And.intro (by first | exact trivial | omega | (simp only [I64]; omega)) ?_ | (with_reducible rw [vc_draw_eq]; first | (refine CV.draw (id := 26) sF13f_f14_26 mixed rfl (by kernel_rfl) ?_; delta sF13f_f14_26)) | ((with_reducible first | refine vp h56a ?_ ?_ | refine dc h56a ?_ ?_ | refine vp h56b ?_ ?_ | refine dc h56b ?_ ?_); focus (first | exact ⟨rfl, .inl ⟨by first | rfl | simp only [go_sem, hkg', hll, List.length_map, AV.pureL, AV.pure], by first | (simp only [go_sem, hkg', hll, List.length_map]; done) | rfl⟩⟩ | exact ⟨rfl, .inr ⟨rfl, by simp only [go_sem, hkg', hll, List.length_map]⟩⟩)) | ((with_reducible first | refine dp h56a ?_ ?_ | refine dp h56b ?_ ?_); focus exact ⟨rfl, by first | rfl | simp only [go_sem, hkg', hll, List.length_map, AV.pureL, AV.pure], by first | (simp only [go_sem, hkg', hll, List.length_map]; done) | rfl⟩) | ((with_reducible first | refine ds h56a ?_ ?_ | refine ds h56b ?_ ?_); focus exact ⟨rfl, rfl⟩) | (simp only [go_sem, hkg', hll, List.length_map])))
              all_goals exact (by (first | exact wk_same (by (simp only [go_sem, Int.natCast_add, cn, Int.cast_ofNat_Int, hal])) | (refine wk_drop ?_ ?_ ?_ ?_ ?_ <;> (simp only [go_sem, Int.natCast_add, cn, Int.cast_ofNat_Int, hal]))))
        · obtain ⟨y, hag⟩ : ∃ y, ag t (lft t l b) = some y := by
            rcases e : lft t l b with _ | ⟨x, r⟩
            · exact absurd e hL0
            · exact ag_cons
          replace hyf := hyf y hag
          rw [hag] at h30
          simp only [resA] at h30
          (repeat' (first | (with_reducible refine CV.same ?_; (try subst hY); (first | refine CV.gcc 26 fun Y hY => ?_ | refine CV.gc 26 fun Y hY => ?_ | skip); refine CV.run ?_) | ((with_reducible first | refine vcG_split ?_ ?_ | refine vcIf_split ?_ ?_ | refine vcQ_split ?_ ?_ | refine vcDG_split ?_ ?_) <;> intro hb <;> (try rw [hb]) <;> (try simp only [bq, bz, dtrue, dfalse] at hb) <;> (try simp only [within] at hb) <;> try (simp only [go_sem, hlt', hll, List.length_map])) | refine And.intro (by first | exact trivial | omega | (simp only [I64]; omega)) ?_ | (with_reducible rw [vc_draw_eq]; first | (refine CV.draw (id := 26) sF13f_f14_26 mixed rfl (by kernel_rfl) ?_; delta sF13f_f14_26)) | ((with_reducible first | refine vp h44 ?_ ?_ | refine dc h44 ?_ ?_ | refine vp h45 ?_ ?_ | refine dc h45 ?_ ?_ | refine vp h57 ?_ ?_ | refine dc h57 ?_ ?_ | refine vp h30 ?_ ?_ | refine dc h30 ?_ ?_ | refine vp c0 ?_ ?_ | refine dc c0 ?_ ?_ | refine vp c3 ?_ ?_ | refine dc c3 ?_ ?_); focus (first | exact ⟨rfl, .inl ⟨by first | rfl | simp only [go_sem, hlt', hll, List.length_map, AV.pureL, AV.pure], by first | (simp only [go_sem, hlt', hll, List.length_map]; done) | rfl⟩⟩ | exact ⟨rfl, .inr ⟨rfl, by simp only [go_sem, hlt', hll, List.length_map]⟩⟩)) | ((with_reducible first | refine dp h44 ?_ ?_ | refine dp h45 ?_ ?_ | refine dp h57 ?_ ?_ | refine dp h30 ?_ ?_ | refine dp c0 ?_ ?_ | refine dp c3 ?_ ?_); focus exact ⟨rfl, by first | rfl | simp only [go_sem, hlt', hll, List.length_map, AV.pureL, AV.pure], by first | (simp only [go_sem, hlt', hll, List.length_map]; done) | rfl⟩) | ((with_reducible first | refine ds h44 ?_ ?_ | refine ds h45 ?_ ?_ | refine ds h57 ?_ ?_ | refine ds h30 ?_ ?_ | refine ds c0 ?_ ?_ | refine ds c3 ?_ ?_); focus exact ⟨rfl, rfl⟩) | (simp only [go_sem, hlt', hll, List.length_map])))
          refine vc_for (fun k => ⟨[(23, .int .i64 k), (22, .bool (decide (anyTo (fun x => stays t b x ∧ fr t x) l k))), (21, .bool (decide (anyTo (stays t b) l k))), (20, .int .i64 0), (19, lN y), (18, .int .i64 0), (17, .int .i64 (brs t p)), (16, lN l), (15, .int .i64 p), (14, .bool (decide (allB t p))), (13, .int .i64 t.pl.length), (11, .bool (decide (safeP t))), (9, lN (sta t b)), (7, lN (los t b)), (5, lN (lft t (allI t.ts.length) b)), (4, .bool false), (2, .lp 0 0), (1, .int .i64 b)], [.box 28 (cT t) false]⟩) l.length (fun _ => True) (by (first | exact wk_same (by (simp only [go_sem, Int.natCast_add, cn, Int.cast_ofNat_Int, decide_eq_false any_zero])) | (refine wk_drop ?_ ?_ ?_ ?_ ?_ <;> (simp only [go_sem, Int.natCast_add, cn, Int.cast_ofNat_Int, decide_eq_false any_zero])))) trivial ?_
          intro k hk _
          rcases Nat.lt_or_ge k l.length with hkl | hkg
          · have hkl' : (k : Int) < l.length := by omega
            obtain ⟨x, hx⟩ := get_of hkl
            have hxr := hLr x (List.mem_of_getElem? hx)
            have h46 := c46y t x hv (by unfold thing within; omega)
            have h56 := c56 (lft t (allI t.ts.length) b) x
            have hin := left_in (t := t) (b := b) (x := x) hxr.1 hxr.2
            by_cases b1 : stays t b x
            · replace h56 := h56.tru (hin.2 b1)
              have e1 := decide_eq_true (any_new (q := stays t b) hx b1)
              by_cases b2 : fr t x
              · rw [decide_eq_true b2] at h46
                have e2 := decide_eq_true (any_new (q := fun x => stays t b x ∧ fr t x) hx ⟨b1, b2⟩)
                by_cases b3 : anyTo (fun x => stays t b x ∧ fr t x) l k
                · rw [decide_eq_true b3]
                  (repeat' (first | (with_reducible refine CV.same ?_; (try subst hY); (first | refine CV.gcc 26 fun Y hY => ?_ | refine CV.gc 26 fun Y hY => ?_ | skip); refine CV.run ?_) | ((with_reducible first | refine vcG_split ?_ ?_ | refine vcIf_split ?_ ?_ | refine vcQ_split ?_ ?_ | refine vcDG_split ?_ ?_) <;> intro hb <;> (try rw [hb]) <;> (try simp only [bq, bz, dtrue, dfalse] at hb) <;> (try simp only [within] at hb) <;> try (simp only [go_sem, hkl', hx, encN, List.length_map])) | refine And.intro (by first | exact trivial | omega | (simp only [I64]; omega)) ?_ | (with_reducible rw [vc_draw_eq]; first | (refine CV.draw (id := 26) sF13f_f14_26 mixed rfl (by kernel_rfl) ?_; delta sF13f_f14_26)) | ((with_reducible first | refine vp h46 ?_ ?_ | refine dc h46 ?_ ?_ | refine vp h56 ?_ ?_ | refine dc h56 ?_ ?_); focus (first | exact ⟨rfl, .inl ⟨by first | rfl | simp only [go_sem, hkl', hx, encN, List.length_map, AV.pureL, AV.pure], by first | (simp only [go_sem, hkl', hx, encN, List.length_map]; done) | rfl⟩⟩ | exact ⟨rfl, .inr ⟨rfl, by simp only [go_sem, hkl', hx, encN, List.length_map]⟩⟩)) | ((with_reducible first | refine dp h46 ?_ ?_ | refine dp h56 ?_ ?_); focus exact ⟨rfl, by first | rfl | simp only [go_sem, hkl', hx, encN, List.length_map, AV.pureL, AV.pure], by first | (simp only [go_sem, hkl', hx, encN, List.length_map]; done) | rfl⟩) | ((with_reducible first | refine ds h46 ?_ ?_ | refine ds h56 ?_ ?_); focus exact ⟨rfl, rfl⟩) | (simp only [go_sem, hkl', hx, encN, List.length_map])))
                  all_goals exact (by (first | exact wk_same (by (simp only [go_sem, Int.natCast_add, cn, Int.cast_ofNat_Int, e1, e2])) | (refine wk_drop ?_ ?_ ?_ ?_ ?_ <;> (simp only [go_sem, Int.natCast_add, cn, Int.cast_ofNat_Int, e1, e2]))))
                · rw [decide_eq_false b3]
                  (repeat' (first | (with_reducible refine CV.same ?_; (try subst hY); (first | refine CV.gcc 26 fun Y hY => ?_ | refine CV.gc 26 fun Y hY => ?_ | skip); refine CV.run ?_) | ((with_reducible first | refine vcG_split ?_ ?_ | refine vcIf_split ?_ ?_ | refine vcQ_split ?_ ?_ | refine vcDG_split ?_ ?_) <;> intro hb <;> (try rw [hb]) <;> (try simp only [bq, bz, dtrue, dfalse] at hb) <;> (try simp only [within] at hb) <;> try (simp only [go_sem, hkl', hx, encN, List.length_map])) | refine And.intro (by first | exact trivial | omega | (simp only [I64]; omega)) ?_ | (with_reducible rw [vc_draw_eq]; first | (refine CV.draw (id := 26) sF13f_f14_26 mixed rfl (by kernel_rfl) ?_; delta sF13f_f14_26)) | ((with_reducible first | refine vp h46 ?_ ?_ | refine dc h46 ?_ ?_ | refine vp h56 ?_ ?_ | refine dc h56 ?_ ?_); focus (first | exact ⟨rfl, .inl ⟨by first | rfl | simp only [go_sem, hkl', hx, encN, List.length_map, AV.pureL, AV.pure], by first | (simp only [go_sem, hkl', hx, encN, List.length_map]; done) | rfl⟩⟩ | exact ⟨rfl, .inr ⟨rfl, by simp only [go_sem, hkl', hx, encN, List.length_map]⟩⟩)) | ((with_reducible first | refine dp h46 ?_ ?_ | refine dp h56 ?_ ?_); focus exact ⟨rfl, by first | rfl | simp only [go_sem, hkl', hx, encN, List.length_map, AV.pureL, AV.pure], by first | (simp only [go_sem, hkl', hx, encN, List.length_map]; done) | rfl⟩) | ((with_reducible first | refine ds h46 ?_ ?_ | refine ds h56 ?_ ?_); focus exact ⟨rfl, rfl⟩) | (simp only [go_sem, hkl', hx, encN, List.length_map])))
                  all_goals exact (by (first | exact wk_same (by (simp only [go_sem, Int.natCast_add, cn, Int.cast_ofNat_Int, e1, e2])) | (refine wk_drop ?_ ?_ ?_ ?_ ?_ <;> (simp only [go_sem, Int.natCast_add, cn, Int.cast_ofNat_Int, e1, e2]))))
              · rw [decide_eq_false b2] at h46
                by_cases b3 : anyTo (fun x => stays t b x ∧ fr t x) l k
                · have e2 := decide_eq_true (any_old b3)
                  rw [decide_eq_true b3]
                  (repeat' (first | (with_reducible refine CV.same ?_; (try subst hY); (first | refine CV.gcc 26 fun Y hY => ?_ | refine CV.gc 26 fun Y hY => ?_ | skip); refine CV.run ?_) | ((with_reducible first | refine vcG_split ?_ ?_ | refine vcIf_split ?_ ?_ | refine vcQ_split ?_ ?_ | refine vcDG_split ?_ ?_) <;> intro hb <;> (try rw [hb]) <;> (try simp only [bq, bz, dtrue, dfalse] at hb) <;> (try simp only [within] at hb) <;> try (simp only [go_sem, hkl', hx, encN, List.length_map])) | refine And.intro (by first | exact trivial | omega | (simp only [I64]; omega)) ?_ | (with_reducible rw [vc_draw_eq]; first | (refine CV.draw (id := 26) sF13f_f14_26 mixed rfl (by kernel_rfl) ?_; delta sF13f_f14_26)) | ((with_reducible first | refine vp h46 ?_ ?_ | refine dc h46 ?_ ?_ | refine vp h56 ?_ ?_ | refine dc h56 ?_ ?_); focus (first | exact ⟨rfl, .inl ⟨by first | rfl | simp only [go_sem, hkl', hx, encN, List.length_map, AV.pureL, AV.pure], by first | (simp only [go_sem, hkl', hx, encN, List.length_map]; done) | rfl⟩⟩ | exact ⟨rfl, .inr ⟨rfl, by simp only [go_sem, hkl', hx, encN, List.length_map]⟩⟩)) | ((with_reducible first | refine dp h46 ?_ ?_ | refine dp h56 ?_ ?_); focus exact ⟨rfl, by first | rfl | simp only [go_sem, hkl', hx, encN, List.length_map, AV.pureL, AV.pure], by first | (simp only [go_sem, hkl', hx, encN, List.length_map]; done) | rfl⟩) | ((with_reducible first | refine ds h46 ?_ ?_ | refine ds h56 ?_ ?_); focus exact ⟨rfl, rfl⟩) | (simp only [go_sem, hkl', hx, encN, List.length_map])))
                  all_goals exact (by (first | exact wk_same (by (simp only [go_sem, Int.natCast_add, cn, Int.cast_ofNat_Int, e1, e2])) | (refine wk_drop ?_ ?_ ?_ ?_ ?_ <;> (simp only [go_sem, Int.natCast_add, cn, Int.cast_ofNat_Int, e1, e2]))))
                · have e2 := decide_eq_false (any_no (q := fun x => stays t b x ∧ fr t x) hx (fun h => b2 h.2) b3)
                  rw [decide_eq_false b3]
                  (repeat' (first | (with_reducible refine CV.same ?_; (try subst hY); (first | refine CV.gcc 26 fun Y hY => ?_ | refine CV.gc 26 fun Y hY => ?_ | skip); refine CV.run ?_) | ((with_reducible first | refine vcG_split ?_ ?_ | refine vcIf_split ?_ ?_ | refine vcQ_split ?_ ?_ | refine vcDG_split ?_ ?_) <;> intro hb <;> (try rw [hb]) <;> (try simp only [bq, bz, dtrue, dfalse] at hb) <;> (try simp only [within] at hb) <;> try (simp only [go_sem, hkl', hx, encN, List.length_map])) | refine And.intro (by first | exact trivial | omega | (simp only [I64]; omega)) ?_ | (with_reducible rw [vc_draw_eq]; first | (refine CV.draw (id := 26) sF13f_f14_26 mixed rfl (by kernel_rfl) ?_; delta sF13f_f14_26)) | ((with_reducible first | refine vp h46 ?_ ?_ | refine dc h46 ?_ ?_ | refine vp h56 ?_ ?_ | refine dc h56 ?_ ?_); focus (first | exact ⟨rfl, .inl ⟨by first | rfl | simp only [go_sem, hkl', hx, encN, List.length_map, AV.pureL, AV.pure], by first | (simp only [go_sem, hkl', hx, encN, List.length_map]; done) | rfl⟩⟩ | exact ⟨rfl, .inr ⟨rfl, by simp only [go_sem, hkl', hx, encN, List.length_map]⟩⟩)) | ((with_reducible first | refine dp h46 ?_ ?_ | refine dp h56 ?_ ?_); focus exact ⟨rfl, by first | rfl | simp only [go_sem, hkl', hx, encN, List.length_map, AV.pureL, AV.pure], by first | (simp only [go_sem, hkl', hx, encN, List.length_map]; done) | rfl⟩) | ((with_reducible first | refine ds h46 ?_ ?_ | refine ds h56 ?_ ?_); focus exact ⟨rfl, rfl⟩) | (simp only [go_sem, hkl', hx, encN, List.length_map])))
                  all_goals exact (by (first | exact wk_same (by (simp only [go_sem, Int.natCast_add, cn, Int.cast_ofNat_Int, e1, e2])) | (refine wk_drop ?_ ?_ ?_ ?_ ?_ <;> (simp only [go_sem, Int.natCast_add, cn, Int.cast_ofNat_Int, e1, e2]))))
            · replace h56 := h56.fls fun h => b1 (hin.1 h)
              have e1 : decide (anyTo (stays t b) l (k + 1)) = decide (anyTo (stays t b) l k) := decide_eq_decide.2 ⟨fun h => Classical.byContradiction fun h2 => any_no hx b1 h2 h, any_old⟩
              have e2 : decide (anyTo (fun x => stays t b x ∧ fr t x) l (k + 1)) = decide (anyTo (fun x => stays t b x ∧ fr t x) l k) := decide_eq_decide.2 ⟨fun h => Classical.byContradiction fun h2 => any_no (q := fun x => stays t b x ∧ fr t x) hx (fun h => b1 h.1) h2 h, any_old⟩
              (repeat' (first | (with_reducible refine CV.same ?_; (try subst hY); (first | refine CV.gcc 26 fun Y hY => ?_ | refine CV.gc 26 fun Y hY => ?_ | skip); refine CV.run ?_) | ((with_reducible first | refine vcG_split ?_ ?_ | refine vcIf_split ?_ ?_ | refine vcQ_split ?_ ?_ | refine vcDG_split ?_ ?_) <;> intro hb <;> (try rw [hb]) <;> (try simp only [bq, bz, dtrue, dfalse] at hb) <;> (try simp only [within] at hb) <;> try (simp only [go_sem, hkl', hx, encN, List.length_map])) | refine And.intro (by first | exact trivial | omega | (simp only [I64]; omega)) ?_ | (with_reducible rw [vc_draw_eq]; first | (refine CV.draw (id := 26) sF13f_f14_26 mixed rfl (by kernel_rfl) ?_; delta sF13f_f14_26)) | ((with_reducible first | refine vp h46 ?_ ?_ | refine dc h46 ?_ ?_ | refine vp h56 ?_ ?_ | refine dc h56 ?_ ?_); focus (first | exact ⟨rfl, .inl ⟨by first | rfl | simp only [go_sem, hkl', hx, encN, List.length_map, AV.pureL, AV.pure], by first | (simp only [go_sem, hkl', hx, encN, List.length_map]; done) | rfl⟩⟩ | exact ⟨rfl, .inr ⟨rfl, by simp only [go_sem, hkl', hx, encN, List.length_map]⟩⟩)) | ((with_reducible first | refine dp h46 ?_ ?_ | refine dp h56 ?_ ?_); focus exact ⟨rfl, by first | rfl | simp only [go_sem, hkl', hx, encN, List.length_map, AV.pureL, AV.pure], by first | (simp only [go_sem, hkl', hx, encN, List.length_map]; done) | rfl⟩) | ((with_reducible first | refine ds h46 ?_ ?_ | refine ds h56 ?_ ?_); focus exact ⟨rfl, rfl⟩) | (simp only [go_sem, hkl', hx, encN, List.length_map])))
              all_goals exact (by (first | exact wk_same (by (simp only [go_sem, Int.natCast_add, cn, Int.cast_ofNat_Int, e1, e2])) | (refine wk_drop ?_ ?_ ?_ ?_ ?_ <;> (simp only [go_sem, Int.natCast_add, cn, Int.cast_ofNat_Int, e1, e2]))))
          · have hkg' : ¬ (k : Int) < l.length := by omega
            have hk1 : anyTo (stays t b) l k ↔ lft t l b ≠ [] := left_some hkg
            have hk2 : anyTo (fun x => stays t b x ∧ fr t x) l k ↔ ∃ x, x ∈ lft t l b ∧ fr t x := left_fr hkg
            have h56a := (c56 (los t b) p).fls fun h => hL0 (by have := (fil_mem.1 h).2; unfold losP at this; rw [hle] at this; exact this)
            rw [decide_eq_true (hk1.2 hL0)]
            by_cases hf : ∃ x, x ∈ lft t l b ∧ fr t x
            · have hy0 : y = [] := (hyf).2 hf
              subst hy0
              rw [decide_eq_true (hk2.2 hf)]
              have h56b := (c56 (sta t b) p).fls fun h => (fil_mem.1 h).2.2 (by rw [hle]; exact hf)
              by_cases c1 : allB t p
              · rw [decide_eq_true c1]
                by_cases c2 : 1 ≤ brs t p
                · have hal := decide_eq_true (allB_yes c1 fun _ => c2)
                  (repeat' (first | (with_reducible refine CV.same ?_; (try subst hY); (first | refine CV.gcc 26 fun Y hY => ?_ | refine CV.gc 26 fun Y hY => ?_ | skip); refine CV.run ?_) | ((with_reducible first | refine vcG_split ?_ ?_ | refine vcIf_split ?_ ?_ | refine vcQ_split ?_ ?_ | refine vcDG_split ?_ ?_) <;> intro hb <;> (try rw [hb]) <;> (try simp only [bq, bz, dtrue, dfalse] at hb) <;> (try simp only [within] at hb) <;> try (simp only [go_sem, hkg', hll, c2, List.length_map])) | refine And.intro (by first | exact trivial | omega | (simp only [I64]; omega)) ?_ | (with_reducible rw [vc_draw_eq]; first | (refine CV.draw (id := 26) sF13f_f14_26 mixed rfl (by kernel_rfl) ?_; delta sF13f_f14_26)) | ((with_reducible first | refine vp h56a ?_ ?_ | refine dc h56a ?_ ?_ | refine vp h56b ?_ ?_ | refine dc h56b ?_ ?_); focus (first | exact ⟨rfl, .inl ⟨by first | rfl | simp only [go_sem, hkg', hll, c2, List.length_map, AV.pureL, AV.pure], by first | (simp only [go_sem, hkg', hll, c2, List.length_map]; done) | rfl⟩⟩ | exact ⟨rfl, .inr ⟨rfl, by simp only [go_sem, hkg', hll, c2, List.length_map]⟩⟩)) | ((with_reducible first | refine dp h56a ?_ ?_ | refine dp h56b ?_ ?_); focus exact ⟨rfl, by first | rfl | simp only [go_sem, hkg', hll, c2, List.length_map, AV.pureL, AV.pure], by first | (simp only [go_sem, hkg', hll, c2, List.length_map]; done) | rfl⟩) | ((with_reducible first | refine ds h56a ?_ ?_ | refine ds h56b ?_ ?_); focus exact ⟨rfl, rfl⟩) | (simp only [go_sem, hkg', hll, c2, List.length_map])))
                  all_goals exact (by (first | exact wk_same (by (simp only [go_sem, Int.natCast_add, cn, Int.cast_ofNat_Int, hal])) | (refine wk_drop ?_ ?_ ?_ ?_ ?_ <;> (simp only [go_sem, Int.natCast_add, cn, Int.cast_ofNat_Int, hal]))))
                · have hal := decide_eq_false (allB_fail (t := t) (p := p) hp (by rw [hle]; exact hl) c2)
                  (repeat' (first | (with_reducible refine CV.same ?_; (try subst hY); (first | refine CV.gcc 26 fun Y hY => ?_ | refine CV.gc 26 fun Y hY => ?_ | skip); refine CV.run ?_) | ((with_reducible first | refine vcG_split ?_ ?_ | refine vcIf_split ?_ ?_ | refine vcQ_split ?_ ?_ | refine vcDG_split ?_ ?_) <;> intro hb <;> (try rw [hb]) <;> (try simp only [bq, bz, dtrue, dfalse] at hb) <;> (try simp only [within] at hb) <;> try (simp only [go_sem, hkg', hll, c2, List.length_map])) | refine And.intro (by first | exact trivial | omega | (simp only [I64]; omega)) ?_ | (with_reducible rw [vc_draw_eq]; first | (refine CV.draw (id := 26) sF13f_f14_26 mixed rfl (by kernel_rfl) ?_; delta sF13f_f14_26)) | ((with_reducible first | refine vp h56a ?_ ?_ | refine dc h56a ?_ ?_ | refine vp h56b ?_ ?_ | refine dc h56b ?_ ?_); focus (first | exact ⟨rfl, .inl ⟨by first | rfl | simp only [go_sem, hkg', hll, c2, List.length_map, AV.pureL, AV.pure], by first | (simp only [go_sem, hkg', hll, c2, List.length_map]; done) | rfl⟩⟩ | exact ⟨rfl, .inr ⟨rfl, by simp only [go_sem, hkg', hll, c2, List.length_map]⟩⟩)) | ((with_reducible first | refine dp h56a ?_ ?_ | refine dp h56b ?_ ?_); focus exact ⟨rfl, by first | rfl | simp only [go_sem, hkg', hll, c2, List.length_map, AV.pureL, AV.pure], by first | (simp only [go_sem, hkg', hll, c2, List.length_map]; done) | rfl⟩) | ((with_reducible first | refine ds h56a ?_ ?_ | refine ds h56b ?_ ?_); focus exact ⟨rfl, rfl⟩) | (simp only [go_sem, hkg', hll, c2, List.length_map])))
                  all_goals exact (by (first | exact wk_same (by (simp only [go_sem, Int.natCast_add, cn, Int.cast_ofNat_Int, hal])) | (refine wk_drop ?_ ?_ ?_ ?_ ?_ <;> (simp only [go_sem, Int.natCast_add, cn, Int.cast_ofNat_Int, hal]))))
              · rw [decide_eq_false c1]
                have hal := decide_eq_false (allB_old (t := t) (p := p) c1)
                (repeat' (first | (with_reducible refine CV.same ?_; (try subst hY); (first | refine CV.gcc 26 fun Y hY => ?_ | refine CV.gc 26 fun Y hY => ?_ | skip); refine CV.run ?_) | ((with_reducible first | refine vcG_split ?_ ?_ | refine vcIf_split ?_ ?_ | refine vcQ_split ?_ ?_ | refine vcDG_split ?_ ?_) <;> intro hb <;> (try rw [hb]) <;> (try simp only [bq, bz, dtrue, dfalse] at hb) <;> (try simp only [within] at hb) <;> try (simp only [go_sem, hkg', hll, List.length_map])) | refine And.intro (by first | exact trivial | omega | (simp only [I64]; omega)) ?_ | (with_reducible rw [vc_draw_eq]; first | (refine CV.draw (id := 26) sF13f_f14_26 mixed rfl (by kernel_rfl) ?_; delta sF13f_f14_26)) | ((with_reducible first | refine vp h56a ?_ ?_ | refine dc h56a ?_ ?_ | refine vp h56b ?_ ?_ | refine dc h56b ?_ ?_); focus (first | exact ⟨rfl, .inl ⟨by first | rfl | simp only [go_sem, hkg', hll, List.length_map, AV.pureL, AV.pure], by first | (simp only [go_sem, hkg', hll, List.length_map]; done) | rfl⟩⟩ | exact ⟨rfl, .inr ⟨rfl, by simp only [go_sem, hkg', hll, List.length_map]⟩⟩)) | ((with_reducible first | refine dp h56a ?_ ?_ | refine dp h56b ?_ ?_); focus exact ⟨rfl, by first | rfl | simp only [go_sem, hkg', hll, List.length_map, AV.pureL, AV.pure], by first | (simp only [go_sem, hkg', hll, List.length_map]; done) | rfl⟩) | ((with_reducible first | refine ds h56a ?_ ?_ | refine ds h56b ?_ ?_); focus exact ⟨rfl, rfl⟩) | (simp only [go_sem, hkg', hll, List.length_map])))
                all_goals exact (by (first | exact wk_same (by (simp only [go_sem, Int.natCast_add, cn, Int.cast_ofNat_Int, hal])) | (refine wk_drop ?_ ?_ ?_ ?_ ?_ <;> (simp only [go_sem, Int.natCast_add, cn, Int.cast_ofNat_Int, hal]))))
            · have hy0 : ¬ ((y.length : Nat) : Int) = 0 := fun e => hf (hyf.1 (List.eq_nil_of_length_eq_zero (by omega)))
              have n2 : ¬ anyTo (fun x => stays t b x ∧ fr t x) l k := fun h => hf (hk2.1 h)
              rw [decide_eq_false n2]
              have h56b := (c56 (sta t b) p).tru (fil_mem.2 ⟨pgs_mem.2 ⟨hp, by rw [hle]; exact hl⟩, show staP t b p by unfold staP; rw [hle]; exact ⟨hL0, hf⟩⟩)
              by_cases c1 : allB t p
              · rw [decide_eq_true c1]
                by_cases c2 : 1 ≤ brs t p
                · have hal := decide_eq_true (allB_yes c1 fun _ => c2)
                  (repeat' (first | (with_reducible refine CV.same ?_; (try subst hY); (first | refine CV.gcc 26 fun Y hY => ?_ | refine CV.gc 26 fun Y hY => ?_ | skip); refine CV.run ?_) | ((with_reducible first | refine vcG_split ?_ ?_ | refine vcIf_split ?_ ?_ | refine vcQ_split ?_ ?_ | refine vcDG_split ?_ ?_) <;> intro hb <;> (try rw [hb]) <;> (try simp only [bq, bz, dtrue, dfalse] at hb) <;> (try simp only [within] at hb) <;> try (simp only [go_sem, hkg', hll, hy0, c2, List.length_map])) | refine And.intro (by first | exact trivial | omega | (simp only [I64]; omega)) ?_ | (with_reducible rw [vc_draw_eq]; first | (refine CV.draw (id := 26) sF13f_f14_26 mixed rfl (by kernel_rfl) ?_; delta sF13f_f14_26)) | ((with_reducible first | refine vp h56a ?_ ?_ | refine dc h56a ?_ ?_ | refine vp h56b ?_ ?_ | refine dc h56b ?_ ?_); focus (first | exact ⟨rfl, .inl ⟨by first | rfl | simp only [go_sem, hkg', hll, hy0, c2, List.length_map, AV.pureL, AV.pure], by first | (simp only [go_sem, hkg', hll, hy0, c2, List.length_map]; done) | rfl⟩⟩ | exact ⟨rfl, .inr ⟨rfl, by simp only [go_sem, hkg', hll, hy0, c2, List.length_map]⟩⟩)) | ((with_reducible first | refine dp h56a ?_ ?_ | refine dp h56b ?_ ?_); focus exact ⟨rfl, by first | rfl | simp only [go_sem, hkg', hll, hy0, c2, List.length_map, AV.pureL, AV.pure], by first | (simp only [go_sem, hkg', hll, hy0, c2, List.length_map]; done) | rfl⟩) | ((with_reducible first | refine ds h56a ?_ ?_ | refine ds h56b ?_ ?_); focus exact ⟨rfl, rfl⟩) | (simp only [go_sem, hkg', hll, hy0, c2, List.length_map])))
                  all_goals exact (by (first | exact wk_same (by (simp only [go_sem, Int.natCast_add, cn, Int.cast_ofNat_Int, hal])) | (refine wk_drop ?_ ?_ ?_ ?_ ?_ <;> (simp only [go_sem, Int.natCast_add, cn, Int.cast_ofNat_Int, hal]))))
                · have hal := decide_eq_false (allB_fail (t := t) (p := p) hp (by rw [hle]; exact hl) c2)
                  (repeat' (first | (with_reducible refine CV.same ?_; (try subst hY); (first | refine CV.gcc 26 fun Y hY => ?_ | refine CV.gc 26 fun Y hY => ?_ | skip); refine CV.run ?_) | ((with_reducible first | refine vcG_split ?_ ?_ | refine vcIf_split ?_ ?_ | refine vcQ_split ?_ ?_ | refine vcDG_split ?_ ?_) <;> intro hb <;> (try rw [hb]) <;> (try simp only [bq, bz, dtrue, dfalse] at hb) <;> (try simp only [within] at hb) <;> try (simp only [go_sem, hkg', hll, hy0, c2, List.length_map])) | refine And.intro (by first | exact trivial | omega | (simp only [I64]; omega)) ?_ | (with_reducible rw [vc_draw_eq]; first | (refine CV.draw (id := 26) sF13f_f14_26 mixed rfl (by kernel_rfl) ?_; delta sF13f_f14_26)) | ((with_reducible first | refine vp h56a ?_ ?_ | refine dc h56a ?_ ?_ | refine vp h56b ?_ ?_ | refine dc h56b ?_ ?_); focus (first | exact ⟨rfl, .inl ⟨by first | rfl | simp only [go_sem, hkg', hll, hy0, c2, List.length_map, AV.pureL, AV.pure], by first | (simp only [go_sem, hkg', hll, hy0, c2, List.length_map]; done) | rfl⟩⟩ | exact ⟨rfl, .inr ⟨rfl, by simp only [go_sem, hkg', hll, hy0, c2, List.length_map]⟩⟩)) | ((with_reducible first | refine dp h56a ?_ ?_ | refine dp h56b ?_ ?_); focus exact ⟨rfl, by first | rfl | simp only [go_sem, hkg', hll, hy0, c2, List.length_map, AV.pureL, AV.pure], by first | (simp only [go_sem, hkg', hll, hy0, c2, List.length_map]; done) | rfl⟩) | ((with_reducible first | refine ds h56a ?_ ?_ | refine ds h56b ?_ ?_); focus exact ⟨rfl, rfl⟩) | (simp only [go_sem, hkg', hll, hy0, c2, List.length_map])))
                  all_goals exact (by (first | exact wk_same (by (simp only [go_sem, Int.natCast_add, cn, Int.cast_ofNat_Int, hal])) | (refine wk_drop ?_ ?_ ?_ ?_ ?_ <;> (simp only [go_sem, Int.natCast_add, cn, Int.cast_ofNat_Int, hal]))))
              · rw [decide_eq_false c1]
                have hal := decide_eq_false (allB_old (t := t) (p := p) c1)
                (repeat' (first | (with_reducible refine CV.same ?_; (try subst hY); (first | refine CV.gcc 26 fun Y hY => ?_ | refine CV.gc 26 fun Y hY => ?_ | skip); refine CV.run ?_) | ((with_reducible first | refine vcG_split ?_ ?_ | refine vcIf_split ?_ ?_ | refine vcQ_split ?_ ?_ | refine vcDG_split ?_ ?_) <;> intro hb <;> (try rw [hb]) <;> (try simp only [bq, bz, dtrue, dfalse] at hb) <;> (try simp only [within] at hb) <;> try (simp only [go_sem, hkg', hll, hy0, List.length_map])) | refine And.intro (by first | exact trivial | omega | (simp only [I64]; omega)) ?_ | (with_reducible rw [vc_draw_eq]; first | (refine CV.draw (id := 26) sF13f_f14_26 mixed rfl (by kernel_rfl) ?_; delta sF13f_f14_26)) | ((with_reducible first | refine vp h56a ?_ ?_ | refine dc h56a ?_ ?_ | refine vp h56b ?_ ?_ | refine dc h56b ?_ ?_); focus (first | exact ⟨rfl, .inl ⟨by first | rfl | simp only [go_sem, hkg', hll, hy0, List.length_map, AV.pureL, AV.pure], by first | (simp only [go_sem, hkg', hll, hy0, List.length_map]; done) | rfl⟩⟩ | exact ⟨rfl, .inr ⟨rfl, by simp only [go_sem, hkg', hll, hy0, List.length_map]⟩⟩)) | ((with_reducible first | refine dp h56a ?_ ?_ | refine dp h56b ?_ ?_); focus exact ⟨rfl, by first | rfl | simp only [go_sem, hkg', hll, hy0, List.length_map, AV.pureL, AV.pure], by first | (simp only [go_sem, hkg', hll, hy0, List.length_map]; done) | rfl⟩) | ((with_reducible first | refine ds h56a ?_ ?_ | refine ds h56b ?_ ?_); focus exact ⟨rfl, rfl⟩) | (simp only [go_sem, hkg', hll, hy0, List.length_map])))
                all_goals exact (by (first | exact wk_same (by (simp only [go_sem, Int.natCast_add, cn, Int.cast_ofNat_Int, hal])) | (refine wk_drop ?_ ?_ ?_ ?_ ?_ <;> (simp only [go_sem, Int.natCast_add, cn, Int.cast_ofNat_Int, hal]))))
    · replace h44 := h44.fls hp
      have h56a := (c56 (los t b) p).fls fun h => hp (pgs_mem.1 (fil_mem.1 h).1).1
      have h56b := (c56 (sta t b) p).fls fun h => hp (pgs_mem.1 (fil_mem.1 h).1).1
      have hal : decide (allB t (p + 1)) = decide (allB t p) := decide_eq_decide.2 (allB_no fun h => hp h.1)
      (repeat' (first | (with_reducible refine CV.same ?_; (try subst hY); (first | refine CV.gcc 26 fun Y hY => ?_ | refine CV.gc 26 fun Y hY => ?_ | skip); refine CV.run ?_) | ((with_reducible first | refine vcG_split ?_ ?_ | refine vcIf_split ?_ ?_ | refine vcQ_split ?_ ?_ | refine vcDG_split ?_ ?_) <;> intro hb <;> (try rw [hb]) <;> (try simp only [bq, bz, dtrue, dfalse] at hb) <;> (try simp only [within] at hb) <;> try (simp only [go_sem, hlt', List.length_map])) | refine And.intro (by first | exact trivial | omega | (simp only [I64]; omega)) ?_ | (with_reducible rw [vc_draw_eq]; first | (refine CV.draw (id := 26) sF13f_f14_26 mixed rfl (by kernel_rfl) ?_; delta sF13f_f14_26)) | ((with_reducible first | refine vp h44 ?_ ?_ | refine dc h44 ?_ ?_ | refine vp h56a ?_ ?_ | refine dc h56a ?_ ?_ | refine vp h56b ?_ ?_ | refine dc h56b ?_ ?_); focus (first | exact ⟨rfl, .inl ⟨by first | rfl | simp only [go_sem, hlt', List.length_map, AV.pureL, AV.pure], by first | (simp only [go_sem, hlt', List.length_map]; done) | rfl⟩⟩ | exact ⟨rfl, .inr ⟨rfl, by simp only [go_sem, hlt', List.length_map]⟩⟩)) | ((with_reducible first | refine dp h44 ?_ ?_ | refine dp h56a ?_ ?_ | refine dp h56b ?_ ?_); focus exact ⟨rfl, by first | rfl | simp only [go_sem, hlt', List.length_map, AV.pureL, AV.pure], by first | (simp only [go_sem, hlt', List.length_map]; done) | rfl⟩) | ((with_reducible first | refine ds h44 ?_ ?_ | refine ds h56a ?_ ?_ | refine ds h56b ?_ ?_); focus exact ⟨rfl, rfl⟩) | (simp only [go_sem, hlt', List.length_map])))
      all_goals exact (by (first | exact wk_same (by (simp only [go_sem, Int.natCast_add, cn, Int.cast_ofNat_Int, hal])) | (refine wk_drop ?_ ?_ ?_ ?_ ?_ <;> (simp only [go_sem, Int.natCast_add, cn, Int.cast_ofNat_Int, hal]))))
  · have hge' : ¬ (p : Int) < t.pl.length := by omega
    have hpe : p = t.ts.length := by omega
    subst hpe
    have hfin : decide (allB t t.ts.length) = decide (safeP t) := decide_eq_decide.2 (allB_safe hv)
    rw [hfin]
    (repeat' (first | (with_reducible refine CV.same ?_; (try subst hY); (first | refine CV.gcc 26 fun Y hY => ?_ | refine CV.gc 26 fun Y hY => ?_ | skip); refine CV.run ?_) | ((with_reducible first | refine vcG_split ?_ ?_ | refine vcIf_split ?_ ?_ | refine vcQ_split ?_ ?_ | refine vcDG_split ?_ ?_) <;> intro hb <;> (try rw [hb]) <;> (try simp only [bq, bz, dtrue, dfalse] at hb) <;> (try simp only [within] at hb) <;> try (simp only [go_sem, hge', List.length_map])) | refine And.intro (by first | exact trivial | omega | (simp only [I64]; omega)) ?_ | (with_reducible rw [vc_draw_eq]; first | (refine CV.draw (id := 26) sF13f_f14_26 mixed rfl (by kernel_rfl) ?_; delta sF13f_f14_26)) | ((with_reducible first | refine vp h17 ?_ ?_ | refine dc h17 ?_ ?_); focus (first | exact ⟨rfl, .inl ⟨by first | rfl | simp only [go_sem, hge', List.length_map, AV.pureL, AV.pure], by first | (simp only [go_sem, hge', List.length_map]; done) | rfl⟩⟩ | exact ⟨rfl, .inr ⟨rfl, by simp only [go_sem, hge', List.length_map]⟩⟩)) | ((with_reducible first | refine dp h17 ?_ ?_); focus exact ⟨rfl, by first | rfl | simp only [go_sem, hge', List.length_map, AV.pureL, AV.pure], by first | (simp only [go_sem, hge', List.length_map]; done) | rfl⟩) | ((with_reducible first | refine ds h17 ?_ ?_); focus exact ⟨rfl, rfl⟩) | (simp only [go_sem, hge', List.length_map])))
end Go.Proofs.YtjlopclpofbgbaaDoor

