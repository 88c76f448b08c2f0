/- Contracts of functions of the given program, without a condition beyond those that each theorem states; they lead to the given statement. -/
import Derived.Test.YtekdocalipchpaaV03n
set_option linter.unusedSimpArgs false
set_option linter.unusedVariables false
set_option linter.unusedVariables false
set_option maxRecDepth 100000
namespace Go.Proofs.Ytekdocalipchpaa
open Go Go.Fl
open Classical
theorem lo_b2 {s : Shop} (hv : valid s) {i : Nat} (hi : i < s.ms.length) : 0 ≤ lo s i ∧ lo s i ≤ 12 := by
  have := lo_bounds hv (W := aW s) (fun w hw => aW_mem hw) i hi
  exact ⟨this.1, this.2.1⟩
/-! ### What one more cast changes -/
theorem castM_get {s : Shop} {i : Nat} {br : Int} {m : Mould} (hm : s.ms[i]? = some m) (j : Nat) : (castM s i br)[j]? = if j = i then some (upd1 m br) else s.ms[j]? := by
  unfold castM
  rw [hm]
  simp only
  by_cases h : j = i
  · subst h
    rw [if_pos rfl, List.getElem?_set_self (List.getElem?_eq_some_iff.1 hm).1]
  · rw [if_neg h, List.getElem?_set_ne (Ne.symm h)]
theorem upd0 {m : Mould} : upd1 m 0 = ⟨m.page, m.used + 1, m.broke⟩ := if_neg (by decide)
theorem cast_agr {s : Shop} {i : Nat} {m : Mould} (hm : s.ms[i]? = some m) (hb : ¬ m.broke = 1) {w : List Int} (h : agrB (castS s i 0) w = true) : agrB s w = true := by
  refine agrB_iff.2 fun j m' hm' => ?_
  have h1 := fun x hx => agrB_iff.1 h j x hx
  by_cases he : j = i
  · subst he
    rw [hm] at hm'; cases hm'
    have := agr1_iff.1 (h1 (upd1 m 0) (by rw [castM_get hm, if_pos rfl]))
    rw [upd0] at this
    exact agr1_iff.2 ⟨by have := this.1; simp only at this; omega, fun q => absurd q hb⟩
  · exact h1 m' (by rw [castM_get hm, if_neg he]; exact hm')
theorem cast_aW {s : Shop} {i : Nat} {m : Mould} (hm : s.ms[i]? = some m) (hb : ¬ m.broke = 1) : aW (castS s i 0) = (aW s).filter (agrB (castS s i 0)) := by
  unfold aW
  rw [List.filter_filter]
  refine List.filter_congr fun w _ => ?_
  cases h : agrB (castS s i 0) w
  · simp
  · simp [cast_agr hm hb h]
theorem wl_mem {s : Shop} {n : Int} : n ∈ wl s ↔ ∃ k : Nat, k < s.ws.length ∧ gd s k = true ∧ n = k := by
  unfold wl selB
  rw [List.mem_map]
  constructor
  · rintro ⟨k, h, rfl⟩
    obtain ⟨h1, h2⟩ := List.mem_filter.1 h
    exact ⟨k, List.mem_range.1 h1, h2, rfl⟩
  · rintro ⟨k, h1, h2, rfl⟩
    exact ⟨k, List.mem_filter.2 ⟨List.mem_range.2 h1, h2⟩, rfl⟩
theorem cast_wl {s : Shop} {i : Nat} {m : Mould} (hm : s.ms[i]? = some m) (hb : ¬ m.broke = 1) {n : Int} (h : n ∈ wl (castS s i 0)) : n ∈ wl s := by
  obtain ⟨k, h1, h2, h3⟩ := wl_mem.1 h
  exact wl_mem.2 ⟨k, h1, cast_agr hm hb h2, h3⟩
theorem cast_len {s : Shop} {i : Nat} {m : Mould} (hm : s.ms[i]? = some m) (hb : ¬ m.broke = 1) : (wl (castS s i 0)).length ≤ (wl s).length := by
  rw [wl_len, wl_len, cast_aW hm hb]
  exact List.length_filter_le _ _
theorem cast_uo {s : Shop} {i : Nat} {m : Mould} (hm : s.ms[i]? = some m) (j : Nat) : uo (castS s i 0) j = uo s j + if j = i then 1 else 0 := by
  unfold uo
  simp only [Int.toNat_natCast, castM_get hm]
  by_cases he : j = i
  · subst he
    simp [hm, upd0]
  · simp [he]
theorem cast_lo {s : Shop} {i : Nat} {m : Mould} (hm : s.ms[i]? = some m) (hb : ¬ m.broke = 1) (hne : aW (castS s i 0) ≠ []) (j : Nat) : lo s j - (if j = i then 1 else 0) ≤ lo (castS s i 0) j := by
  have h1 := low_mem (l := (aW (castS s i 0)).map fun w => lf (castS s i 0) w j) (by simpa using hne)
  obtain ⟨w, hw, he⟩ := List.mem_map.1 h1
  show _ ≤ low _
  rw [← he]
  have hw2 : w ∈ aW s := by rw [cast_aW hm hb] at hw; exact (List.mem_filter.1 hw).1
  have h2 : lo s j ≤ lf s w j := low_le (List.mem_map.2 ⟨w, hw2, rfl⟩)
  unfold lf at h2 ⊢
  rw [cast_uo hm]
  omega
theorem cast_surT {s : Shop} {i : Nat} {m : Mould} (hm : s.ms[i]? = some m) (hb : ¬ m.broke = 1) (hne : aW (castS s i 0) ≠ []) (q : Int) : ∀ k : Nat, surT s q k - (if i < k ∧ m.page = q then 1 else 0) ≤ surT (castS s i 0) q k
  | 0 => by simp [surT]
  | k + 1 => by
    have ih := cast_surT hm hb hne q k
    have hl := cast_lo hm hb hne k
    simp only [surT, sur1, castM_get hm]
    by_cases he : k = i
    · subst he
      rw [if_pos rfl, hm, upd0]
      simp only [if_true] at hl ⊢
      split <;> simp_all <;> omega
    · rw [if_neg he] at hl ⊢
      have e : (i < k + 1 ∧ m.page = q) = (i < k ∧ m.page = q) := propext ⟨fun h => ⟨by omega, h.2⟩, fun h => ⟨by omega, h.2⟩⟩
      simp only [e]
      cases s.ms[k]? with
      | none => simp only; omega
      | some x => simp only; split <;> omega
theorem cast_sur {s : Shop} {i : Nat} {m : Mould} (hm : s.ms[i]? = some m) (hb : ¬ m.broke = 1) (hne : aW (castS s i 0) ≠ []) (q : Int) : sur s q - (if m.page = q then 1 else 0) ≤ sur (castS s i 0) q := by
  have h := cast_surT hm hb hne q s.ms.length
  have hi := (List.getElem?_eq_some_iff.1 hm).1
  unfold sur
  rw [castM_len]
  split at h <;> split <;> omega
abbrev lessS (s : Shop) (p : Nat) : Shop := ⟨s.ms, s.ws, s.wt.set p (gv s.wt p - 1), s.fr⟩
theorem less_surT {t : Shop} {p : Nat} {q : Int} : ∀ k : Nat, surT (lessS t p) q k = surT t q k
  | 0 => rfl
  | k + 1 => by
    have ih := less_surT (t := t) (p := p) (q := q) k
    have e : sur1 (lessS t p) q k = sur1 t q k := rfl
    simp only [surT, ih, e]
theorem less_neT {s t : Shop} (hf : 1 ≤ s.fr) (hw : t.wt = s.wt) (hfr : t.fr = s.fr) {p : Nat} (hs : ∀ q : Int, sur s q - (if (p : Int) = q then 1 else 0) ≤ sur t q) : ∀ k : Nat, neT (lessS t p) k ≤ neT s k
  | 0 => Int.le_refl _
  | k + 1 => by
    have ih := less_neT hf hw hfr hs k
    have h1 := hs k
    have : ne1 (lessS t p) k ≤ ne1 s k := by
      unfold ne1
      have e : sur (lessS t p) k = sur t k := less_surT _
      simp only [e, hw, hfr, List.getElem?_set]
      by_cases he : p = k
      · subst he
        simp only [if_true] at h1 ⊢
        cases hx : s.wt[p]? with
        | none =>
          have := List.getElem?_eq_none_iff.1 hx
          rw [if_neg (by omega)]; simp
        | some x =>
          have hlt := (List.getElem?_eq_some_iff.1 hx).1
          rw [if_pos hlt, gv_nat hx]
          exact ceil_mono hf (by omega)
      · rw [if_neg he]
        rw [if_neg (by omega)] at h1
        cases s.wt[k]? with
        | none => simp
        | some x => exact ceil_mono hf (by omega)
    simp only [neT]; omega
theorem less_kno {t : Shop} (hk : kno t) {p : Nat} {x : Int} (hx : t.wt[p]? = some x) (h0 : ¬ x = 0) : kno (lessS t p) := by
  obtain ⟨⟨h1, h2, h3, h4, h5, h6, h7⟩, h8⟩ := hk
  have hx2 := h5 x (List.mem_of_getElem? hx)
  unfold within at hx2
  refine ⟨⟨by rw [List.length_set]; exact h1, h2, h3, h4, fun n hn => ?_, fun m hm => ?_, h7⟩, h8⟩
  · rcases List.mem_or_eq_of_mem_set hn with q | q
    · exact h5 n q
    · rw [q, gv_nat hx]; unfold within; omega
  · have := h6 m hm
    unfold okM at this ⊢
    rw [List.length_set]; exact this
abbrev oC (s : Shop) : List AV := [.row 5 s.ms.length, .row 8 s.ws.length, .row 6 s.wt.length, .int .i64 s.fr]
abbrev oH (s : Shop) (i : Nat) (m : Mould) (X : Heap) : Heap := .box 26 (cS s) false :: .box 26 (cS s) false :: .box 26 (oC s) false :: .box 26 (cS s) false :: .box 26 (oC s) false :: .row 51 3 ((castM s i 0).map encD) false :: .row 3 1 (s.wt.map encN) false :: .box 26 (oC s) false :: .row 24 1 (s.ws.map encW) false :: .box 26 (oC s) false :: .box 51 [.int .i64 (upd1 m 0).page, .int .i64 (upd1 m 0).used, .int .i64 (upd1 m 0).broke] false :: .box 26 (oC s) false :: X
abbrev oW (s : Shop) (i : Nat) : Heap := [.box 26 [.any, .any, .any, .any] false, .box 24 [.row 14 (wl (castS s i 0)).length] false, .row 3 1 ((wl (castS s i 0)).map encN) false]
abbrev oL (s : Shop) (i : Nat) : Heap := [.box 26 [.any, .any, .any, .any] false, .box 24 [.row 14 (wl (castS s i 0)).length] false, .row 3 1 ((wl (castS s i 0)).map encN) false, .box 26 [.any, .any, .any, .any] false, .row 37 2 ((lfT (castS s i 0) s.ms.length).map encP) false]
theorem shift_mapP {n : Nat} {l : List (Int × Int)} : List.map (shiftL n) (List.map encP l) = List.map encP l := by
  rw [List.map_map]; exact List.map_congr_left fun a _ => by simp [encP, shiftL, shiftV]
theorem safeP (l : List (Int × Int)) : safeB (.row 37 2 (l.map encP) false) := fun e he => by
  obtain ⟨x, _, rfl⟩ := List.mem_map.1 he
  rfl
set_option maxHeartbeats 4000000 in
theorem c7 (s : Shop) (i : Int) : PC Try.prog 7 [hS s, .int .i64 i] (.bool true) := by
  have h15 := c15 s
  by_cases hk : ¬ (kno s)
  · rw [decide_eq_false hk] at h15
    refine PC.body Try.func7 (by kernel_rfl) rfl (by simp [Try.f7]) rfl ?_
    simp only [Try.f7]
    intro hlen
    simp only [go_sem, List.length_map, and_true, true_and] at hlen
    refine CV.run ?_
    (repeat' (first | ((first | with_reducible refine vcG_split ?_ ?_ | with_reducible refine vcIf_split ?_ ?_ | with_reducible refine vcQ_split ?_ ?_ | with_reducible refine vcDG_split ?_ ?_) <;> intro hb <;> (try rw [hb]) <;> (try simp only [Bool.and_eq_true, Bool.or_eq_true, dtrue, dfalse, Bool.not_eq_true', Bool.not_eq_false', Bool.and_eq_false_iff, Bool.or_eq_false_iff, Bool.not_true, Bool.not_false] at hb) <;> (try simp only [within] at hb) <;> try (simp only [go_sem])) | refine And.intro (by (first | exact trivial | (simp only [I64]; omega) | omega)) ?_ | (with_reducible rw [vc_draw_eq]; first | refine CV.draw (id := 22) [(0, 0), (0, 0), (0, 0), (0, 0), (0, 0), (0, 0), (0, 0), (0, 0), (0, 0), (0, 0), (0, 0), (0, 0), (0, 0), (0, 0), (0, 0), (0, 0), (0, 0), (0, 0), (0, 0), (0, 0), (0, 0), (0, 0), (0, 0), (0, 0), (0, 0), (0, 0), (0, 0), (0, 0), (0, 0), (0, 0)] mixed rfl (by kernel_rfl) ?_ | refine CV.draw (id := 28) [(0, 0), (0, 0), (0, 0), (0, 0), (0, 0), (0, 0)] mixed rfl (by kernel_rfl) ?_) | (first | (refine vcP_pure (h15) rfl ?_ ?_ ?_; (focus (first | rfl | ((simp only [go_sem, AV.pureL, AV.pure, pureL_mapI, Bool.and_self]) <;> fail))); (focus (first | ((simp only [go_sem]) <;> fail) | rfl))) | (refine dCallP_pure (h15) rfl ?_ ?_ ?_; (focus (first | rfl | ((simp only [go_sem, AV.pureL, AV.pure, pureL_mapI, Bool.and_self]) <;> fail))); (focus (first | ((simp only [go_sem]) <;> fail) | rfl))) | refine vcP_safe (h15) rfl rfl (by (simp only [go_sem])) ?_ | refine dCallP_safe (h15) rfl rfl ?_ | (refine vcP_pure (c17) rfl ?_ ?_ ?_; (focus (first | rfl | ((simp only [go_sem, AV.pureL, AV.pure, pureL_mapI, Bool.and_self]) <;> fail))); (focus (first | ((simp only [go_sem]) <;> fail) | rfl))) | (refine dCallP_pure (c17) rfl ?_ ?_ ?_; (focus (first | rfl | ((simp only [go_sem, AV.pureL, AV.pure, pureL_mapI, Bool.and_self]) <;> fail))); (focus (first | ((simp only [go_sem]) <;> fail) | rfl))) | refine vcP_safe (c17) rfl rfl (by (simp only [go_sem])) ?_ | refine dCallP_safe (c17) rfl rfl ?_) | (simp only [go_sem])))
  have hk := Classical.not_not.1 hk
  rw [decide_eq_true hk] at h15
  have h41 := c41 s i
  by_cases hi : ¬ (within i 0 (s.ms.length - 1))
  · rw [decide_eq_false hi] at h41
    refine PC.body Try.func7 (by kernel_rfl) rfl (by simp [Try.f7]) rfl ?_
    simp only [Try.f7]
    intro hlen
    simp only [go_sem, List.length_map, and_true, true_and] at hlen
    refine CV.run ?_
    (repeat' (first | ((first | with_reducible refine vcG_split ?_ ?_ | with_reducible refine vcIf_split ?_ ?_ | with_reducible refine vcQ_split ?_ ?_ | with_reducible refine vcDG_split ?_ ?_) <;> intro hb <;> (try rw [hb]) <;> (try simp only [Bool.and_eq_true, Bool.or_eq_true, dtrue, dfalse, Bool.not_eq_true', Bool.not_eq_false', Bool.and_eq_false_iff, Bool.or_eq_false_iff, Bool.not_true, Bool.not_false] at hb) <;> (try simp only [within] at hb) <;> try (simp only [go_sem])) | refine And.intro (by (first | exact trivial | (simp only [I64]; omega) | omega)) ?_ | (with_reducible rw [vc_draw_eq]; first | refine CV.draw (id := 22) [(0, 0), (0, 0), (0, 0), (0, 0), (0, 0), (0, 0), (0, 0), (0, 0), (0, 0), (0, 0), (0, 0), (0, 0), (0, 0), (0, 0), (0, 0), (0, 0), (0, 0), (0, 0), (0, 0), (0, 0), (0, 0), (0, 0), (0, 0), (0, 0), (0, 0), (0, 0), (0, 0), (0, 0), (0, 0), (0, 0)] mixed rfl (by kernel_rfl) ?_ | refine CV.draw (id := 28) [(0, 0), (0, 0), (0, 0), (0, 0), (0, 0), (0, 0)] mixed rfl (by kernel_rfl) ?_) | (first | (refine vcP_pure (h15) rfl ?_ ?_ ?_; (focus (first | rfl | ((simp only [go_sem, AV.pureL, AV.pure, pureL_mapI, Bool.and_self]) <;> fail))); (focus (first | ((simp only [go_sem]) <;> fail) | rfl))) | (refine dCallP_pure (h15) rfl ?_ ?_ ?_; (focus (first | rfl | ((simp only [go_sem, AV.pureL, AV.pure, pureL_mapI, Bool.and_self]) <;> fail))); (focus (first | ((simp only [go_sem]) <;> fail) | rfl))) | refine vcP_safe (h15) rfl rfl (by (simp only [go_sem])) ?_ | refine dCallP_safe (h15) rfl rfl ?_ | (refine vcP_pure (h41) rfl ?_ ?_ ?_; (focus (first | rfl | ((simp only [go_sem, AV.pureL, AV.pure, pureL_mapI, Bool.and_self]) <;> fail))); (focus (first | ((simp only [go_sem]) <;> fail) | rfl))) | (refine dCallP_pure (h41) rfl ?_ ?_ ?_; (focus (first | rfl | ((simp only [go_sem, AV.pureL, AV.pure, pureL_mapI, Bool.and_self]) <;> fail))); (focus (first | ((simp only [go_sem]) <;> fail) | rfl))) | refine vcP_safe (h41) rfl rfl (by (simp only [go_sem])) ?_ | refine dCallP_safe (h41) rfl rfl ?_ | (refine vcP_pure (c17) rfl ?_ ?_ ?_; (focus (first | rfl | ((simp only [go_sem, AV.pureL, AV.pure, pureL_mapI, Bool.and_self]) <;> fail))); (focus (first | ((simp only [go_sem]) <;> fail) | rfl))) | (refine dCallP_pure (c17) rfl ?_ ?_ ?_; (focus (first | rfl | ((simp only [go_sem, AV.pureL, AV.pure, pureL_mapI, Bool.and_self]) <;> fail))); (focus (first | ((simp only [go_sem]) <;> fail) | rfl))) | refine vcP_safe (c17) rfl rfl (by (simp only [go_sem])) ?_ | refine dCallP_safe (c17) rfl rfl ?_) | (simp only [go_sem])))
  have hi := Classical.not_not.1 hi
  rw [decide_eq_true hi] at h41
  unfold within at hi
  obtain ⟨i, rfl⟩ := Int.eq_ofNat_of_zero_le hi.1
  have hil : (i : Int) < s.ms.length := by omega
  obtain ⟨m, hm⟩ := get_of (l := s.ms) (j := i) (by omega)
  have hv := hk.1
  have hmb := hv.mould hm
  by_cases hb : m.broke = 1
  · skip
    refine PC.body Try.func7 (by kernel_rfl) rfl (by simp [Try.f7]) rfl ?_
    simp only [Try.f7]
    intro hlen
    simp only [go_sem, List.length_map, and_true, true_and] at hlen
    refine CV.run ?_
    (repeat' (first | ((first | with_reducible refine vcG_split ?_ ?_ | with_reducible refine vcIf_split ?_ ?_ | with_reducible refine vcQ_split ?_ ?_ | with_reducible refine vcDG_split ?_ ?_) <;> intro hb <;> (try rw [hb]) <;> (try simp only [Bool.and_eq_true, Bool.or_eq_true, dtrue, dfalse, Bool.not_eq_true', Bool.not_eq_false', Bool.and_eq_false_iff, Bool.or_eq_false_iff, Bool.not_true, Bool.not_false] at hb) <;> (try simp only [within] at hb) <;> try (simp only [go_sem, hil, hm, hb, encD])) | refine And.intro (by (first | exact trivial | (simp only [I64]; omega) | omega)) ?_ | (with_reducible rw [vc_draw_eq]; first | refine CV.draw (id := 22) [(0, 0), (0, 0), (0, 0), (0, 0), (0, 0), (0, 0), (0, 0), (0, 0), (0, 0), (0, 0), (0, 0), (0, 0), (0, 0), (0, 0), (0, 0), (0, 0), (0, 0), (0, 0), (0, 0), (0, 0), (0, 0), (0, 0), (0, 0), (0, 0), (0, 0), (0, 0), (0, 0), (0, 0), (0, 0), (0, 0)] mixed rfl (by kernel_rfl) ?_ | refine CV.draw (id := 28) [(0, 0), (0, 0), (0, 0), (0, 0), (0, 0), (0, 0)] mixed rfl (by kernel_rfl) ?_) | (first | (refine vcP_pure (h15) rfl ?_ ?_ ?_; (focus (first | rfl | ((simp only [go_sem, hil, hm, hb, encD, AV.pureL, AV.pure, pureL_mapI, Bool.and_self]) <;> fail))); (focus (first | ((simp only [go_sem, hil, hm, hb, encD]) <;> fail) | rfl))) | (refine dCallP_pure (h15) rfl ?_ ?_ ?_; (focus (first | rfl | ((simp only [go_sem, hil, hm, hb, encD, AV.pureL, AV.pure, pureL_mapI, Bool.and_self]) <;> fail))); (focus (first | ((simp only [go_sem, hil, hm, hb, encD]) <;> fail) | rfl))) | refine vcP_safe (h15) rfl rfl (by (simp only [go_sem, hil, hm, hb, encD])) ?_ | refine dCallP_safe (h15) rfl rfl ?_ | (refine vcP_pure (h41) rfl ?_ ?_ ?_; (focus (first | rfl | ((simp only [go_sem, hil, hm, hb, encD, AV.pureL, AV.pure, pureL_mapI, Bool.and_self]) <;> fail))); (focus (first | ((simp only [go_sem, hil, hm, hb, encD]) <;> fail) | rfl))) | (refine dCallP_pure (h41) rfl ?_ ?_ ?_; (focus (first | rfl | ((simp only [go_sem, hil, hm, hb, encD, AV.pureL, AV.pure, pureL_mapI, Bool.and_self]) <;> fail))); (focus (first | ((simp only [go_sem, hil, hm, hb, encD]) <;> fail) | rfl))) | refine vcP_safe (h41) rfl rfl (by (simp only [go_sem, hil, hm, hb, encD])) ?_ | refine dCallP_safe (h41) rfl rfl ?_ | (refine vcP_pure (c17) rfl ?_ ?_ ?_; (focus (first | rfl | ((simp only [go_sem, hil, hm, hb, encD, AV.pureL, AV.pure, pureL_mapI, Bool.and_self]) <;> fail))); (focus (first | ((simp only [go_sem, hil, hm, hb, encD]) <;> fail) | rfl))) | (refine dCallP_pure (c17) rfl ?_ ?_ ?_; (focus (first | rfl | ((simp only [go_sem, hil, hm, hb, encD, AV.pureL, AV.pure, pureL_mapI, Bool.and_self]) <;> fail))); (focus (first | ((simp only [go_sem, hil, hm, hb, encD]) <;> fail) | rfl))) | refine vcP_safe (c17) rfl rfl (by (simp only [go_sem, hil, hm, hb, encD])) ?_ | refine dCallP_safe (c17) rfl rfl ?_) | (simp only [go_sem, hil, hm, hb, encD])))
  have g15 := c15 (castS s i 0)
  have hcl := castM_len (s := s) (i := i) (br := 0)
  by_cases ho : ¬ (kno (castS s i 0))
  · rw [decide_eq_false ho] at g15
    refine PC.body Try.func7 (by kernel_rfl) rfl (by simp [Try.f7]) rfl ?_
    simp only [Try.f7]
    intro hlen
    simp only [go_sem, List.length_map, and_true, true_and] at hlen
    refine CV.run ?_
    (repeat' (first | ((first | with_reducible refine vcG_split ?_ ?_ | with_reducible refine vcIf_split ?_ ?_ | with_reducible refine vcQ_split ?_ ?_ | with_reducible refine vcDG_split ?_ ?_) <;> intro hb <;> (try rw [hb]) <;> (try simp only [Bool.and_eq_true, Bool.or_eq_true, dtrue, dfalse, Bool.not_eq_true', Bool.not_eq_false', Bool.and_eq_false_iff, Bool.or_eq_false_iff, Bool.not_true, Bool.not_false] at hb) <;> (try simp only [within] at hb) <;> try (simp only [go_sem, hil, hm, hb, encD])) | refine And.intro (by (first | exact trivial | (simp only [I64]; omega) | omega)) ?_ | (with_reducible rw [vc_draw_eq]; first | refine CV.draw (id := 22) [(0, 0), (0, 0), (0, 0), (0, 0), (0, 0), (0, 0), (0, 0), (0, 0), (0, 0), (0, 0), (0, 0), (0, 0), (0, 0), (0, 0), (0, 0), (0, 0), (0, 0), (0, 0), (0, 0), (0, 0), (0, 0), (0, 0), (0, 0), (0, 0), (0, 0), (0, 0), (0, 0), (0, 0), (0, 0), (0, 0)] mixed rfl (by kernel_rfl) ?_ | refine CV.draw (id := 28) [(0, 0), (0, 0), (0, 0), (0, 0), (0, 0), (0, 0)] mixed rfl (by kernel_rfl) ?_) | (first | (refine vcP_pure (h15) rfl ?_ ?_ ?_; (focus (first | rfl | ((simp only [go_sem, hil, hm, hb, encD, AV.pureL, AV.pure, pureL_mapI, Bool.and_self]) <;> fail))); (focus (first | ((simp only [go_sem, hil, hm, hb, encD]) <;> fail) | rfl))) | (refine dCallP_pure (h15) rfl ?_ ?_ ?_; (focus (first | rfl | ((simp only [go_sem, hil, hm, hb, encD, AV.pureL, AV.pure, pureL_mapI, Bool.and_self]) <;> fail))); (focus (first | ((simp only [go_sem, hil, hm, hb, encD]) <;> fail) | rfl))) | refine vcP_safe (h15) rfl rfl (by (simp only [go_sem, hil, hm, hb, encD])) ?_ | refine dCallP_safe (h15) rfl rfl ?_ | (refine vcP_pure (h41) rfl ?_ ?_ ?_; (focus (first | rfl | ((simp only [go_sem, hil, hm, hb, encD, AV.pureL, AV.pure, pureL_mapI, Bool.and_self]) <;> fail))); (focus (first | ((simp only [go_sem, hil, hm, hb, encD]) <;> fail) | rfl))) | (refine dCallP_pure (h41) rfl ?_ ?_ ?_; (focus (first | rfl | ((simp only [go_sem, hil, hm, hb, encD, AV.pureL, AV.pure, pureL_mapI, Bool.and_self]) <;> fail))); (focus (first | ((simp only [go_sem, hil, hm, hb, encD]) <;> fail) | rfl))) | refine vcP_safe (h41) rfl rfl (by (simp only [go_sem, hil, hm, hb, encD])) ?_ | refine dCallP_safe (h41) rfl rfl ?_) | (simp only [go_sem, hil, hm, hb, encD])))
    refine vcP_new (h42 s hv.small i m hm (by omega) 0) rfl ?_
    (repeat' (first | ((first | with_reducible refine vcG_split ?_ ?_ | with_reducible refine vcIf_split ?_ ?_ | with_reducible refine vcQ_split ?_ ?_ | with_reducible refine vcDG_split ?_ ?_) <;> intro hb <;> (try rw [hb]) <;> (try simp only [Bool.and_eq_true, Bool.or_eq_true, dtrue, dfalse, Bool.not_eq_true', Bool.not_eq_false', Bool.and_eq_false_iff, Bool.or_eq_false_iff, Bool.not_true, Bool.not_false] at hb) <;> (try simp only [within] at hb) <;> try (simp only [go_sem, List.map_cons, List.map_nil, List.cons_append, List.nil_append, hcl])) | refine And.intro (by (first | exact trivial | (simp only [I64]; omega) | omega)) ?_ | (with_reducible rw [vc_draw_eq]; first | refine CV.draw (id := 22) [(0, 0), (0, 0), (0, 0), (0, 0), (0, 0), (0, 0), (0, 0), (0, 0), (0, 0), (0, 0), (0, 0), (0, 0), (0, 0), (0, 0), (0, 0), (0, 0), (0, 0), (0, 0), (0, 0), (0, 0), (0, 0), (0, 0), (0, 0), (0, 0), (0, 0), (0, 0), (0, 0), (0, 0), (0, 0), (0, 0)] mixed rfl (by kernel_rfl) ?_ | refine CV.draw (id := 28) [(0, 0), (0, 0), (0, 0), (0, 0), (0, 0), (0, 0)] mixed rfl (by kernel_rfl) ?_) | (first | (refine vcP_pure (g15) rfl ?_ ?_ ?_; (focus (first | rfl | ((simp only [go_sem, List.map_cons, List.map_nil, List.cons_append, List.nil_append, hcl, AV.pureL, AV.pure, pureL_mapI, Bool.and_self]) <;> fail))); (focus (first | ((simp only [go_sem, List.map_cons, List.map_nil, List.cons_append, List.nil_append, hcl]) <;> fail) | rfl))) | (refine dCallP_pure (g15) rfl ?_ ?_ ?_; (focus (first | rfl | ((simp only [go_sem, List.map_cons, List.map_nil, List.cons_append, List.nil_append, hcl, AV.pureL, AV.pure, pureL_mapI, Bool.and_self]) <;> fail))); (focus (first | ((simp only [go_sem, List.map_cons, List.map_nil, List.cons_append, List.nil_append, hcl]) <;> fail) | rfl))) | refine vcP_safe (g15) rfl rfl (by (simp only [go_sem, List.map_cons, List.map_nil, List.cons_append, List.nil_append, hcl])) ?_ | refine dCallP_safe (g15) rfl rfl ?_ | (refine vcP_pure (c17) rfl ?_ ?_ ?_; (focus (first | rfl | ((simp only [go_sem, List.map_cons, List.map_nil, List.cons_append, List.nil_append, hcl, AV.pureL, AV.pure, pureL_mapI, Bool.and_self]) <;> fail))); (focus (first | ((simp only [go_sem, List.map_cons, List.map_nil, List.cons_append, List.nil_append, hcl]) <;> fail) | rfl))) | (refine dCallP_pure (c17) rfl ?_ ?_ ?_; (focus (first | rfl | ((simp only [go_sem, List.map_cons, List.map_nil, List.cons_append, List.nil_append, hcl, AV.pureL, AV.pure, pureL_mapI, Bool.and_self]) <;> fail))); (focus (first | ((simp only [go_sem, List.map_cons, List.map_nil, List.cons_append, List.nil_append, hcl]) <;> fail) | rfl))) | refine vcP_safe (c17) rfl rfl (by (simp only [go_sem, List.map_cons, List.map_nil, List.cons_append, List.nil_append, hcl])) ?_ | refine dCallP_safe (c17) rfl rfl ?_) | (simp only [go_sem, List.map_cons, List.map_nil, List.cons_append, List.nil_append, hcl])))
  have ho := Classical.not_not.1 ho
  rw [decide_eq_true ho] at g15
  refine PC.body Try.func7 (by kernel_rfl) rfl (by simp [Try.f7]) rfl ?_
  simp only [Try.f7]
  intro hlen
  simp only [go_sem, List.length_map, and_true, true_and] at hlen
  refine CV.run ?_
  (repeat' (first | ((first | with_reducible refine vcG_split ?_ ?_ | with_reducible refine vcIf_split ?_ ?_ | with_reducible refine vcQ_split ?_ ?_ | with_reducible refine vcDG_split ?_ ?_) <;> intro hb <;> (try rw [hb]) <;> (try simp only [Bool.and_eq_true, Bool.or_eq_true, dtrue, dfalse, Bool.not_eq_true', Bool.not_eq_false', Bool.and_eq_false_iff, Bool.or_eq_false_iff, Bool.not_true, Bool.not_false] at hb) <;> (try simp only [within] at hb) <;> try (simp only [go_sem, hil, hm, hb, encD])) | refine And.intro (by (first | exact trivial | (simp only [I64]; omega) | omega)) ?_ | (with_reducible rw [vc_draw_eq]; first | refine CV.draw (id := 22) [(0, 0), (0, 0), (0, 0), (0, 0), (0, 0), (0, 0), (0, 0), (0, 0), (0, 0), (0, 0), (0, 0), (0, 0), (0, 0), (0, 0), (0, 0), (0, 0), (0, 0), (0, 0), (0, 0), (0, 0), (0, 0), (0, 0), (0, 0), (0, 0), (0, 0), (0, 0), (0, 0), (0, 0), (0, 0), (0, 0)] mixed rfl (by kernel_rfl) ?_ | refine CV.draw (id := 28) [(0, 0), (0, 0), (0, 0), (0, 0), (0, 0), (0, 0)] mixed rfl (by kernel_rfl) ?_) | (first | (refine vcP_pure (h15) rfl ?_ ?_ ?_; (focus (first | rfl | ((simp only [go_sem, hil, hm, hb, encD, AV.pureL, AV.pure, pureL_mapI, Bool.and_self]) <;> fail))); (focus (first | ((simp only [go_sem, hil, hm, hb, encD]) <;> fail) | rfl))) | (refine dCallP_pure (h15) rfl ?_ ?_ ?_; (focus (first | rfl | ((simp only [go_sem, hil, hm, hb, encD, AV.pureL, AV.pure, pureL_mapI, Bool.and_self]) <;> fail))); (focus (first | ((simp only [go_sem, hil, hm, hb, encD]) <;> fail) | rfl))) | refine vcP_safe (h15) rfl rfl (by (simp only [go_sem, hil, hm, hb, encD])) ?_ | refine dCallP_safe (h15) rfl rfl ?_ | (refine vcP_pure (h41) rfl ?_ ?_ ?_; (focus (first | rfl | ((simp only [go_sem, hil, hm, hb, encD, AV.pureL, AV.pure, pureL_mapI, Bool.and_self]) <;> fail))); (focus (first | ((simp only [go_sem, hil, hm, hb, encD]) <;> fail) | rfl))) | (refine dCallP_pure (h41) rfl ?_ ?_ ?_; (focus (first | rfl | ((simp only [go_sem, hil, hm, hb, encD, AV.pureL, AV.pure, pureL_mapI, Bool.and_self]) <;> fail))); (focus (first | ((simp only [go_sem, hil, hm, hb, encD]) <;> fail) | rfl))) | refine vcP_safe (h41) rfl rfl (by (simp only [go_sem, hil, hm, hb, encD])) ?_ | refine dCallP_safe (h41) rfl rfl ?_) | (simp only [go_sem, hil, hm, hb, encD])))
  refine vcP_new (h42 s hv.small i m hm (by omega) 0) rfl ?_
  have h43 := c43 s
  rw [show rWorlds s = _ from ans_yes (check_0.2 hv)] at h43
  have n1 := cast_len hm hb
  have n2 := wl_len s
  have n3 : (aW s).length ≤ s.ws.length := List.length_filter_le _ _
  have n4 : ¬ ((wl s).length : Int) < (wl (castS s i 0)).length := by omega
  have n5 : ¬ (s.ws.length : Int) < (wl s).length := by omega
  (repeat' (first | ((first | with_reducible refine vcG_split ?_ ?_ | with_reducible refine vcIf_split ?_ ?_ | with_reducible refine vcQ_split ?_ ?_ | with_reducible refine vcDG_split ?_ ?_) <;> intro hb <;> (try rw [hb]) <;> (try simp only [Bool.and_eq_true, Bool.or_eq_true, dtrue, dfalse, Bool.not_eq_true', Bool.not_eq_false', Bool.and_eq_false_iff, Bool.or_eq_false_iff, Bool.not_true, Bool.not_false] at hb) <;> (try simp only [within] at hb) <;> try (simp only [go_sem, List.map_cons, List.map_nil, List.cons_append, List.nil_append, hcl])) | refine And.intro (by (first | exact trivial | (simp only [I64]; omega) | omega)) ?_ | (with_reducible rw [vc_draw_eq]; first | refine CV.draw (id := 22) [(0, 0), (0, 0), (0, 0), (0, 0), (0, 0), (0, 0), (0, 0), (0, 0), (0, 0), (0, 0), (0, 0), (0, 0), (0, 0), (0, 0), (0, 0), (0, 0), (0, 0), (0, 0), (0, 0), (0, 0), (0, 0), (0, 0), (0, 0), (0, 0), (0, 0), (0, 0), (0, 0), (0, 0), (0, 0), (0, 0)] mixed rfl (by kernel_rfl) ?_ | refine CV.draw (id := 28) [(0, 0), (0, 0), (0, 0), (0, 0), (0, 0), (0, 0)] mixed rfl (by kernel_rfl) ?_) | (first | (refine vcP_pure (g15) rfl ?_ ?_ ?_; (focus (first | rfl | ((simp only [go_sem, List.map_cons, List.map_nil, List.cons_append, List.nil_append, hcl, AV.pureL, AV.pure, pureL_mapI, Bool.and_self]) <;> fail))); (focus (first | ((simp only [go_sem, List.map_cons, List.map_nil, List.cons_append, List.nil_append, hcl]) <;> fail) | rfl))) | (refine dCallP_pure (g15) rfl ?_ ?_ ?_; (focus (first | rfl | ((simp only [go_sem, List.map_cons, List.map_nil, List.cons_append, List.nil_append, hcl, AV.pureL, AV.pure, pureL_mapI, Bool.and_self]) <;> fail))); (focus (first | ((simp only [go_sem, List.map_cons, List.map_nil, List.cons_append, List.nil_append, hcl]) <;> fail) | rfl))) | refine vcP_safe (g15) rfl rfl (by (simp only [go_sem, List.map_cons, List.map_nil, List.cons_append, List.nil_append, hcl])) ?_ | refine dCallP_safe (g15) rfl rfl ?_ | (refine vcP_pure (h43) rfl ?_ ?_ ?_; (focus (first | rfl | ((simp only [go_sem, List.map_cons, List.map_nil, List.cons_append, List.nil_append, hcl, AV.pureL, AV.pure, pureL_mapI, Bool.and_self]) <;> fail))); (focus (first | ((simp only [go_sem, List.map_cons, List.map_nil, List.cons_append, List.nil_append, hcl]) <;> fail) | rfl))) | (refine dCallP_pure (h43) rfl ?_ ?_ ?_; (focus (first | rfl | ((simp only [go_sem, List.map_cons, List.map_nil, List.cons_append, List.nil_append, hcl, AV.pureL, AV.pure, pureL_mapI, Bool.and_self]) <;> fail))); (focus (first | ((simp only [go_sem, List.map_cons, List.map_nil, List.cons_append, List.nil_append, hcl]) <;> fail) | rfl))) | refine vcP_safe (h43) rfl rfl (by (simp only [go_sem, List.map_cons, List.map_nil, List.cons_append, List.nil_append, hcl])) ?_ | refine dCallP_safe (h43) rfl rfl ?_) | (simp only [go_sem, List.map_cons, List.map_nil, List.cons_append, List.nil_append, hcl])))
  refine vcP_fnew (k43 _ ho.1) (by (simp only [go_sem, hcl, List.length_map])) rfl (by simp [safeH, safeB, safeL, safeV, encN]) ?_
  (repeat' (first | ((first | with_reducible refine vcG_split ?_ ?_ | with_reducible refine vcIf_split ?_ ?_ | with_reducible refine vcQ_split ?_ ?_ | with_reducible refine vcDG_split ?_ ?_) <;> intro hb <;> (try rw [hb]) <;> (try simp only [Bool.and_eq_true, Bool.or_eq_true, dtrue, dfalse, Bool.not_eq_true', Bool.not_eq_false', Bool.and_eq_false_iff, Bool.or_eq_false_iff, Bool.not_true, Bool.not_false] at hb) <;> (try simp only [within] at hb) <;> try (simp only [go_sem, List.map_cons, List.map_nil, List.cons_append, List.nil_append, hcl, n4, n5, List.length_map])) | refine And.intro (by (first | exact trivial | (simp only [I64]; omega) | omega)) ?_ | (with_reducible rw [vc_draw_eq]; first | refine CV.draw (id := 22) [(0, 0), (0, 0), (0, 0), (0, 0), (0, 0), (0, 0), (0, 0), (0, 0), (0, 0), (0, 0), (0, 0), (0, 0), (0, 0), (0, 0), (0, 0), (0, 0), (0, 0), (0, 0), (0, 0), (0, 0), (0, 0), (0, 0), (0, 0), (0, 0), (0, 0), (0, 0), (0, 0), (0, 0), (0, 0), (0, 0)] mixed rfl (by kernel_rfl) ?_ | refine CV.draw (id := 28) [(0, 0), (0, 0), (0, 0), (0, 0), (0, 0), (0, 0)] mixed rfl (by kernel_rfl) ?_) | fail | (simp only [go_sem, List.map_cons, List.map_nil, List.cons_append, List.nil_append, hcl, n4, n5, List.length_map])))
  refine vc_for (fun j => ⟨[(10, .int .i64 j), (8, .row 14 (wl (castS s i 0)).length), (6, lN (wl s)), (5, .lp 11 0), (4, .bool false), (2, .lp 0 0), (1, .int .i64 i)], oH s i m (oW s i)⟩) (wl (castS s i 0)).length (fun _ => True) (by (first | exact wk_same (by (simp only [go_sem, Int.natCast_add, Int.natCast_one, Int.natCast_zero, Int.cast_ofNat_Int])) | exact wk_drop (by (simp only [go_sem, Int.natCast_add, Int.natCast_one, Int.natCast_zero, Int.cast_ofNat_Int])) (by (simp only [go_sem, Int.natCast_add, Int.natCast_one, Int.natCast_zero, Int.cast_ofNat_Int])) (by (simp only [go_sem, Int.natCast_add, Int.natCast_one, Int.natCast_zero, Int.cast_ofNat_Int])) (by (simp only [go_sem, Int.natCast_add, Int.natCast_one, Int.natCast_zero, Int.cast_ofNat_Int])) (by (simp only [go_sem, Int.natCast_add, Int.natCast_one, Int.natCast_zero, Int.cast_ofNat_Int])))) trivial ?_
  intro j hj _
  rcases Nat.lt_or_ge j (wl (castS s i 0)).length with hlt | hge
  · obtain ⟨x, hx⟩ := get_of hlt
    have hlt' : (j : Int) < (wl (castS s i 0)).length := by omega
    have h44 := c44 (wl s) x
    rw [decide_eq_true (cast_wl hm hb (List.mem_of_getElem? hx))] at h44
    (repeat' (first | ((first | with_reducible refine vcG_split ?_ ?_ | with_reducible refine vcIf_split ?_ ?_ | with_reducible refine vcQ_split ?_ ?_ | with_reducible refine vcDG_split ?_ ?_) <;> intro hb <;> (try rw [hb]) <;> (try simp only [Bool.and_eq_true, Bool.or_eq_true, dtrue, dfalse, Bool.not_eq_true', Bool.not_eq_false', Bool.and_eq_false_iff, Bool.or_eq_false_iff, Bool.not_true, Bool.not_false] at hb) <;> (try simp only [within] at hb) <;> try (simp only [go_sem, hlt', hx, encN, List.length_map])) | refine And.intro (by (first | exact trivial | (simp only [I64]; omega) | omega)) ?_ | (with_reducible rw [vc_draw_eq]; first | refine CV.draw (id := 22) [(0, 0), (0, 0), (0, 0), (0, 0), (0, 0), (0, 0), (0, 0), (0, 0), (0, 0), (0, 0), (0, 0), (0, 0), (0, 0), (0, 0), (0, 0), (0, 0), (0, 0), (0, 0), (0, 0), (0, 0), (0, 0), (0, 0), (0, 0), (0, 0), (0, 0), (0, 0), (0, 0), (0, 0), (0, 0), (0, 0)] mixed rfl (by kernel_rfl) ?_ | refine CV.draw (id := 28) [(0, 0), (0, 0), (0, 0), (0, 0), (0, 0), (0, 0)] mixed rfl (by kernel_rfl) ?_) | (first | (refine vcP_pure (h44) rfl ?_ ?_ ?_; (focus (first | rfl | ((simp only [go_sem, hlt', hx, encN, List.length_map, AV.pureL, AV.pure, pureL_mapI, Bool.and_self]) <;> fail))); (focus (first | ((simp only [go_sem, hlt', hx, encN, List.length_map]) <;> fail) | rfl))) | (refine dCallP_pure (h44) rfl ?_ ?_ ?_; (focus (first | rfl | ((simp only [go_sem, hlt', hx, encN, List.length_map, AV.pureL, AV.pure, pureL_mapI, Bool.and_self]) <;> fail))); (focus (first | ((simp only [go_sem, hlt', hx, encN, List.length_map]) <;> fail) | rfl))) | refine vcP_safe (h44) rfl rfl (by (simp only [go_sem, hlt', hx, encN, List.length_map])) ?_ | refine dCallP_safe (h44) rfl rfl ?_) | (simp only [go_sem, hlt', hx, encN, List.length_map])))
    (first | exact wk_same (by (simp only [go_sem, Int.natCast_add, Int.natCast_one, Int.natCast_zero, Int.cast_ofNat_Int])) | exact wk_drop (by (simp only [go_sem, Int.natCast_add, Int.natCast_one, Int.natCast_zero, Int.cast_ofNat_Int])) (by (simp only [go_sem, Int.natCast_add, Int.natCast_one, Int.natCast_zero, Int.cast_ofNat_Int])) (by (simp only [go_sem, Int.natCast_add, Int.natCast_one, Int.natCast_zero, Int.cast_ofNat_Int])) (by (simp only [go_sem, Int.natCast_add, Int.natCast_one, Int.natCast_zero, Int.cast_ofNat_Int])) (by (simp only [go_sem, Int.natCast_add, Int.natCast_one, Int.natCast_zero, Int.cast_ofNat_Int])))
  have hge' : ¬ (j : Int) < (wl (castS s i 0)).length := by omega
  have h19 := c19 s hk
  have K19 := k19 _ ho
  rw [hcl] at K19
  (repeat' (first | ((first | with_reducible refine vcG_split ?_ ?_ | with_reducible refine vcIf_split ?_ ?_ | with_reducible refine vcQ_split ?_ ?_ | with_reducible refine vcDG_split ?_ ?_) <;> intro hb <;> (try rw [hb]) <;> (try simp only [Bool.and_eq_true, Bool.or_eq_true, dtrue, dfalse, Bool.not_eq_true', Bool.not_eq_false', Bool.and_eq_false_iff, Bool.or_eq_false_iff, Bool.not_true, Bool.not_false] at hb) <;> (try simp only [within] at hb) <;> try (simp only [go_sem, hge'])) | refine And.intro (by (first | exact trivial | (simp only [I64]; omega) | omega)) ?_ | (with_reducible rw [vc_draw_eq]; first | refine CV.draw (id := 22) [(0, 0), (0, 0), (0, 0), (0, 0), (0, 0), (0, 0), (0, 0), (0, 0), (0, 0), (0, 0), (0, 0), (0, 0), (0, 0), (0, 0), (0, 0), (0, 0), (0, 0), (0, 0), (0, 0), (0, 0), (0, 0), (0, 0), (0, 0), (0, 0), (0, 0), (0, 0), (0, 0), (0, 0), (0, 0), (0, 0)] mixed rfl (by kernel_rfl) ?_ | refine CV.draw (id := 28) [(0, 0), (0, 0), (0, 0), (0, 0), (0, 0), (0, 0)] mixed rfl (by kernel_rfl) ?_) | (first | (refine vcP_pure (h19) rfl ?_ ?_ ?_; (focus (first | rfl | ((simp only [go_sem, hge', AV.pureL, AV.pure, pureL_mapI, Bool.and_self]) <;> fail))); (focus (first | ((simp only [go_sem, hge']) <;> fail) | rfl))) | (refine dCallP_pure (h19) rfl ?_ ?_ ?_; (focus (first | rfl | ((simp only [go_sem, hge', AV.pureL, AV.pure, pureL_mapI, Bool.and_self]) <;> fail))); (focus (first | ((simp only [go_sem, hge']) <;> fail) | rfl))) | refine vcP_safe (h19) rfl rfl (by (simp only [go_sem, hge'])) ?_ | refine dCallP_safe (h19) rfl rfl ?_) | (simp only [go_sem, hge'])))
  refine vcP_fnew K19 (by (simp only [go_sem, hcl, List.length_map])) rfl ⟨rfl, safeP _, trivial⟩ ?_
  (repeat' (first | ((first | with_reducible refine vcG_split ?_ ?_ | with_reducible refine vcIf_split ?_ ?_ | with_reducible refine vcQ_split ?_ ?_ | with_reducible refine vcDG_split ?_ ?_) <;> intro hb <;> (try rw [hb]) <;> (try simp only [Bool.and_eq_true, Bool.or_eq_true, dtrue, dfalse, Bool.not_eq_true', Bool.not_eq_false', Bool.and_eq_false_iff, Bool.or_eq_false_iff, Bool.not_true, Bool.not_false] at hb) <;> (try simp only [within] at hb) <;> try (simp only [go_sem, List.map_cons, List.map_nil, List.cons_append, List.nil_append, hcl, List.length_map, shift_mapP])) | refine And.intro (by (first | exact trivial | (simp only [I64]; omega) | omega)) ?_ | (with_reducible rw [vc_draw_eq]; first | refine CV.draw (id := 22) [(0, 0), (0, 0), (0, 0), (0, 0), (0, 0), (0, 0), (0, 0), (0, 0), (0, 0), (0, 0), (0, 0), (0, 0), (0, 0), (0, 0), (0, 0), (0, 0), (0, 0), (0, 0), (0, 0), (0, 0), (0, 0), (0, 0), (0, 0), (0, 0), (0, 0), (0, 0), (0, 0), (0, 0), (0, 0), (0, 0)] mixed rfl (by kernel_rfl) ?_ | refine CV.draw (id := 28) [(0, 0), (0, 0), (0, 0), (0, 0), (0, 0), (0, 0)] mixed rfl (by kernel_rfl) ?_) | fail | (simp only [go_sem, List.map_cons, List.map_nil, List.cons_append, List.nil_append, hcl, List.length_map, shift_mapP])))
  have hl1 := lfT_len (s := s) (j := s.ms.length)
  have hl2 := lfT_len (s := castS s i 0) (j := s.ms.length)
  refine vc_for (fun j => ⟨[(15, .int .i64 j), (13, .row 16 s.ms.length), (11, .lst false 2 ((lfT s s.ms.length).map encP)), (5, .lp 11 0), (4, .bool false), (2, .lp 0 0), (1, .int .i64 i)], oH s i m (oL s i)⟩) s.ms.length (fun _ => True) (by (first | exact wk_same (by (simp only [go_sem, Int.natCast_add, Int.natCast_one, Int.natCast_zero, Int.cast_ofNat_Int])) | exact wk_drop (by (simp only [go_sem, Int.natCast_add, Int.natCast_one, Int.natCast_zero, Int.cast_ofNat_Int])) (by (simp only [go_sem, Int.natCast_add, Int.natCast_one, Int.natCast_zero, Int.cast_ofNat_Int])) (by (simp only [go_sem, Int.natCast_add, Int.natCast_one, Int.natCast_zero, Int.cast_ofNat_Int])) (by (simp only [go_sem, Int.natCast_add, Int.natCast_one, Int.natCast_zero, Int.cast_ofNat_Int])) (by (simp only [go_sem, Int.natCast_add, Int.natCast_one, Int.natCast_zero, Int.cast_ofNat_Int])))) trivial ?_
  intro j hj _
  rcases Nat.lt_or_ge j s.ms.length with hlt | hge
  · have hlt' : (j : Int) < s.ms.length := by omega
    have q1 := lfT_get (s := s) hlt
    have q2 := lfT_get (s := castS s i 0) hlt
    have hlo := cast_lo hm hb ho.2 j
    have b1 := lo_b2 hv hlt
    have b2 := lo_b2 ho.1 (i := j) (by rw [castM_len]; exact hlt)
    by_cases he : j = i
    · subst he
      rw [if_pos rfl] at hlo
      have e1 : ¬ lo (castS s j 0) j < lo s j - 1 := by omega
      (repeat' (first | ((first | with_reducible refine vcG_split ?_ ?_ | with_reducible refine vcIf_split ?_ ?_ | with_reducible refine vcQ_split ?_ ?_ | with_reducible refine vcDG_split ?_ ?_) <;> intro hb <;> (try rw [hb]) <;> (try simp only [Bool.and_eq_true, Bool.or_eq_true, dtrue, dfalse, Bool.not_eq_true', Bool.not_eq_false', Bool.and_eq_false_iff, Bool.or_eq_false_iff, Bool.not_true, Bool.not_false] at hb) <;> (try simp only [within] at hb) <;> try (simp only [go_sem, hlt', hl1, hl2, q1, q2, encP, e1, List.length_map])) | refine And.intro (by (first | exact trivial | (simp only [I64]; omega) | omega)) ?_ | (with_reducible rw [vc_draw_eq]; first | refine CV.draw (id := 22) [(0, 0), (0, 0), (0, 0), (0, 0), (0, 0), (0, 0), (0, 0), (0, 0), (0, 0), (0, 0), (0, 0), (0, 0), (0, 0), (0, 0), (0, 0), (0, 0), (0, 0), (0, 0), (0, 0), (0, 0), (0, 0), (0, 0), (0, 0), (0, 0), (0, 0), (0, 0), (0, 0), (0, 0), (0, 0), (0, 0)] mixed rfl (by kernel_rfl) ?_ | refine CV.draw (id := 28) [(0, 0), (0, 0), (0, 0), (0, 0), (0, 0), (0, 0)] mixed rfl (by kernel_rfl) ?_) | fail | (simp only [go_sem, hlt', hl1, hl2, q1, q2, encP, e1, List.length_map])))
      all_goals (first | exact wk_same (by (simp only [go_sem, Int.natCast_add, Int.natCast_one, Int.natCast_zero, Int.cast_ofNat_Int])) | exact wk_drop (by (simp only [go_sem, Int.natCast_add, Int.natCast_one, Int.natCast_zero, Int.cast_ofNat_Int])) (by (simp only [go_sem, Int.natCast_add, Int.natCast_one, Int.natCast_zero, Int.cast_ofNat_Int])) (by (simp only [go_sem, Int.natCast_add, Int.natCast_one, Int.natCast_zero, Int.cast_ofNat_Int])) (by (simp only [go_sem, Int.natCast_add, Int.natCast_one, Int.natCast_zero, Int.cast_ofNat_Int])) (by (simp only [go_sem, Int.natCast_add, Int.natCast_one, Int.natCast_zero, Int.cast_ofNat_Int])))
    · rw [if_neg he] at hlo
      have e1 : ¬ lo (castS s i 0) j < lo s j := by omega
      have e2 : ¬ (j : Int) = i := by omega
      (repeat' (first | ((first | with_reducible refine vcG_split ?_ ?_ | with_reducible refine vcIf_split ?_ ?_ | with_reducible refine vcQ_split ?_ ?_ | with_reducible refine vcDG_split ?_ ?_) <;> intro hb <;> (try rw [hb]) <;> (try simp only [Bool.and_eq_true, Bool.or_eq_true, dtrue, dfalse, Bool.not_eq_true', Bool.not_eq_false', Bool.and_eq_false_iff, Bool.or_eq_false_iff, Bool.not_true, Bool.not_false] at hb) <;> (try simp only [within] at hb) <;> try (simp only [go_sem, hlt', hl1, hl2, q1, q2, encP, e1, e2, List.length_map])) | refine And.intro (by (first | exact trivial | (simp only [I64]; omega) | omega)) ?_ | (with_reducible rw [vc_draw_eq]; first | refine CV.draw (id := 22) [(0, 0), (0, 0), (0, 0), (0, 0), (0, 0), (0, 0), (0, 0), (0, 0), (0, 0), (0, 0), (0, 0), (0, 0), (0, 0), (0, 0), (0, 0), (0, 0), (0, 0), (0, 0), (0, 0), (0, 0), (0, 0), (0, 0), (0, 0), (0, 0), (0, 0), (0, 0), (0, 0), (0, 0), (0, 0), (0, 0)] mixed rfl (by kernel_rfl) ?_ | refine CV.draw (id := 28) [(0, 0), (0, 0), (0, 0), (0, 0), (0, 0), (0, 0)] mixed rfl (by kernel_rfl) ?_) | fail | (simp only [go_sem, hlt', hl1, hl2, q1, q2, encP, e1, e2, List.length_map])))
      all_goals (first | exact wk_same (by (simp only [go_sem, Int.natCast_add, Int.natCast_one, Int.natCast_zero, Int.cast_ofNat_Int])) | exact wk_drop (by (simp only [go_sem, Int.natCast_add, Int.natCast_one, Int.natCast_zero, Int.cast_ofNat_Int])) (by (simp only [go_sem, Int.natCast_add, Int.natCast_one, Int.natCast_zero, Int.cast_ofNat_Int])) (by (simp only [go_sem, Int.natCast_add, Int.natCast_one, Int.natCast_zero, Int.cast_ofNat_Int])) (by (simp only [go_sem, Int.natCast_add, Int.natCast_one, Int.natCast_zero, Int.cast_ofNat_Int])) (by (simp only [go_sem, Int.natCast_add, Int.natCast_one, Int.natCast_zero, Int.cast_ofNat_Int])))
  have hge' : ¬ (j : Int) < s.ms.length := by omega
  obtain ⟨p, hp⟩ : ∃ p : Nat, m.page = p := ⟨m.page.toNat, by omega⟩
  have hpw : (p : Int) < s.wt.length := by omega
  obtain ⟨x, hx⟩ := get_of (l := s.wt) (j := p) (by omega)
  have hx12 := hv.2.2.2.2.1 x (List.mem_of_getElem? hx)
  unfold within at hx12
  by_cases h0 : x = 0
  · (repeat' (first | ((first | with_reducible refine vcG_split ?_ ?_ | with_reducible refine vcIf_split ?_ ?_ | with_reducible refine vcQ_split ?_ ?_ | with_reducible refine vcDG_split ?_ ?_) <;> intro hb <;> (try rw [hb]) <;> (try simp only [Bool.and_eq_true, Bool.or_eq_true, dtrue, dfalse, Bool.not_eq_true', Bool.not_eq_false', Bool.and_eq_false_iff, Bool.or_eq_false_iff, Bool.not_true, Bool.not_false] at hb) <;> (try simp only [within] at hb) <;> try (simp only [go_sem, hge', hil, hm, hp, encD, hx, h0, encN, hpw, hl1, hl2, List.length_map])) | refine And.intro (by (first | exact trivial | (simp only [I64]; omega) | omega)) ?_ | (with_reducible rw [vc_draw_eq]; first | refine CV.draw (id := 22) [(0, 0), (0, 0), (0, 0), (0, 0), (0, 0), (0, 0), (0, 0), (0, 0), (0, 0), (0, 0), (0, 0), (0, 0), (0, 0), (0, 0), (0, 0), (0, 0), (0, 0), (0, 0), (0, 0), (0, 0), (0, 0), (0, 0), (0, 0), (0, 0), (0, 0), (0, 0), (0, 0), (0, 0), (0, 0), (0, 0)] mixed rfl (by kernel_rfl) ?_ | refine CV.draw (id := 28) [(0, 0), (0, 0), (0, 0), (0, 0), (0, 0), (0, 0)] mixed rfl (by kernel_rfl) ?_) | (first | (refine vcP_pure (c17) rfl ?_ ?_ ?_; (focus (first | rfl | ((simp only [go_sem, hge', hil, hm, hp, encD, hx, h0, encN, hpw, hl1, hl2, List.length_map, AV.pureL, AV.pure, pureL_mapI, Bool.and_self]) <;> fail))); (focus (first | ((simp only [go_sem, hge', hil, hm, hp, encD, hx, h0, encN, hpw, hl1, hl2, List.length_map]) <;> fail) | rfl))) | (refine dCallP_pure (c17) rfl ?_ ?_ ?_; (focus (first | rfl | ((simp only [go_sem, hge', hil, hm, hp, encD, hx, h0, encN, hpw, hl1, hl2, List.length_map, AV.pureL, AV.pure, pureL_mapI, Bool.and_self]) <;> fail))); (focus (first | ((simp only [go_sem, hge', hil, hm, hp, encD, hx, h0, encN, hpw, hl1, hl2, List.length_map]) <;> fail) | rfl))) | refine vcP_safe (c17) rfl rfl (by (simp only [go_sem, hge', hil, hm, hp, encD, hx, h0, encN, hpw, hl1, hl2, List.length_map])) ?_ | refine dCallP_safe (c17) rfl rfl ?_) | (simp only [go_sem, hge', hil, hm, hp, encD, hx, h0, encN, hpw, hl1, hl2, List.length_map])))
  have kq := less_kno ho (p := p) hx h0
  have h20 := c20 s hk
  have g20 := c20 _ kq
  have ngx : gv s.wt p = x := gv_nat hx
  have hset : (s.wt.map encN).set p [.int .i64 (x - 1)] = (s.wt.set p (gv s.wt p - 1)).map encN := by rw [ngx]; simp [List.map_set, encN]
  have m1 := neN_bounds hv
  have m2 := neN_bounds kq.1
  have m3 : neN (lessS (castS s i 0) p) ≤ neN s := by
    have := less_neT (s := s) (t := castS s i 0) (by have := hv.2.2.2.1; unfold within at this; omega) rfl rfl (p := p) (fun q => by have := cast_sur hm hb ho.2 q; rw [hp] at this; exact this) s.wt.length
    unfold neN
    rw [List.length_set]
    exact this
  have m4 := m1.1
  have m5 := m2.1
  (repeat' (first | ((first | with_reducible refine vcG_split ?_ ?_ | with_reducible refine vcIf_split ?_ ?_ | with_reducible refine vcQ_split ?_ ?_ | with_reducible refine vcDG_split ?_ ?_) <;> intro hb <;> (try rw [hb]) <;> (try simp only [Bool.and_eq_true, Bool.or_eq_true, dtrue, dfalse, Bool.not_eq_true', Bool.not_eq_false', Bool.and_eq_false_iff, Bool.or_eq_false_iff, Bool.not_true, Bool.not_false] at hb) <;> (try simp only [within] at hb) <;> try (simp only [go_sem, hge', hil, hm, hp, encD, hx, h0, encN, hpw, hl1, hl2, hset, m3, m4, m5, hcl, List.length_map, List.length_set])) | refine And.intro (by (first | exact trivial | (simp only [I64]; omega) | omega)) ?_ | (with_reducible rw [vc_draw_eq]; first | refine CV.draw (id := 22) [(0, 0), (0, 0), (0, 0), (0, 0), (0, 0), (0, 0), (0, 0), (0, 0), (0, 0), (0, 0), (0, 0), (0, 0), (0, 0), (0, 0), (0, 0), (0, 0), (0, 0), (0, 0), (0, 0), (0, 0), (0, 0), (0, 0), (0, 0), (0, 0), (0, 0), (0, 0), (0, 0), (0, 0), (0, 0), (0, 0)] mixed rfl (by kernel_rfl) ?_ | refine CV.draw (id := 28) [(0, 0), (0, 0), (0, 0), (0, 0), (0, 0), (0, 0)] mixed rfl (by kernel_rfl) ?_) | (first | (refine vcP_pure (h20) rfl ?_ ?_ ?_; (focus (first | rfl | ((simp only [go_sem, hge', hil, hm, hp, encD, hx, h0, encN, hpw, hl1, hl2, hset, m3, m4, m5, hcl, List.length_map, List.length_set, AV.pureL, AV.pure, pureL_mapI, Bool.and_self]) <;> fail))); (focus (first | ((simp only [go_sem, hge', hil, hm, hp, encD, hx, h0, encN, hpw, hl1, hl2, hset, m3, m4, m5, hcl, List.length_map, List.length_set]) <;> fail) | rfl))) | (refine dCallP_pure (h20) rfl ?_ ?_ ?_; (focus (first | rfl | ((simp only [go_sem, hge', hil, hm, hp, encD, hx, h0, encN, hpw, hl1, hl2, hset, m3, m4, m5, hcl, List.length_map, List.length_set, AV.pureL, AV.pure, pureL_mapI, Bool.and_self]) <;> fail))); (focus (first | ((simp only [go_sem, hge', hil, hm, hp, encD, hx, h0, encN, hpw, hl1, hl2, hset, m3, m4, m5, hcl, List.length_map, List.length_set]) <;> fail) | rfl))) | refine vcP_safe (h20) rfl rfl (by (simp only [go_sem, hge', hil, hm, hp, encD, hx, h0, encN, hpw, hl1, hl2, hset, m3, m4, m5, hcl, List.length_map, List.length_set])) ?_ | refine dCallP_safe (h20) rfl rfl ?_ | (refine vcP_pure (g20) rfl ?_ ?_ ?_; (focus (first | rfl | ((simp only [go_sem, hge', hil, hm, hp, encD, hx, h0, encN, hpw, hl1, hl2, hset, m3, m4, m5, hcl, List.length_map, List.length_set, AV.pureL, AV.pure, pureL_mapI, Bool.and_self]) <;> fail))); (focus (first | ((simp only [go_sem, hge', hil, hm, hp, encD, hx, h0, encN, hpw, hl1, hl2, hset, m3, m4, m5, hcl, List.length_map, List.length_set]) <;> fail) | rfl))) | (refine dCallP_pure (g20) rfl ?_ ?_ ?_; (focus (first | rfl | ((simp only [go_sem, hge', hil, hm, hp, encD, hx, h0, encN, hpw, hl1, hl2, hset, m3, m4, m5, hcl, List.length_map, List.length_set, AV.pureL, AV.pure, pureL_mapI, Bool.and_self]) <;> fail))); (focus (first | ((simp only [go_sem, hge', hil, hm, hp, encD, hx, h0, encN, hpw, hl1, hl2, hset, m3, m4, m5, hcl, List.length_map, List.length_set]) <;> fail) | rfl))) | refine vcP_safe (g20) rfl rfl (by (simp only [go_sem, hge', hil, hm, hp, encD, hx, h0, encN, hpw, hl1, hl2, hset, m3, m4, m5, hcl, List.length_map, List.length_set])) ?_ | refine dCallP_safe (g20) rfl rfl ?_ | (refine vcP_pure (c17) rfl ?_ ?_ ?_; (focus (first | rfl | ((simp only [go_sem, hge', hil, hm, hp, encD, hx, h0, encN, hpw, hl1, hl2, hset, m3, m4, m5, hcl, List.length_map, List.length_set, AV.pureL, AV.pure, pureL_mapI, Bool.and_self]) <;> fail))); (focus (first | ((simp only [go_sem, hge', hil, hm, hp, encD, hx, h0, encN, hpw, hl1, hl2, hset, m3, m4, m5, hcl, List.length_map, List.length_set]) <;> fail) | rfl))) | (refine dCallP_pure (c17) rfl ?_ ?_ ?_; (focus (first | rfl | ((simp only [go_sem, hge', hil, hm, hp, encD, hx, h0, encN, hpw, hl1, hl2, hset, m3, m4, m5, hcl, List.length_map, List.length_set, AV.pureL, AV.pure, pureL_mapI, Bool.and_self]) <;> fail))); (focus (first | ((simp only [go_sem, hge', hil, hm, hp, encD, hx, h0, encN, hpw, hl1, hl2, hset, m3, m4, m5, hcl, List.length_map, List.length_set]) <;> fail) | rfl))) | refine vcP_safe (c17) rfl rfl (by (simp only [go_sem, hge', hil, hm, hp, encD, hx, h0, encN, hpw, hl1, hl2, hset, m3, m4, m5, hcl, List.length_map, List.length_set])) ?_ | refine dCallP_safe (c17) rfl rfl ?_) | (simp only [go_sem, hge', hil, hm, hp, encD, hx, h0, encN, hpw, hl1, hl2, hset, m3, m4, m5, hcl, List.length_map, List.length_set])))
end Go.Proofs.Ytekdocalipchpaa
