/- Contracts of functions of the given program, without a condition beyond those that each theorem states; they lead to the given statement. -/
import Derived.Test.YtoadkchhimojlaaGreatG05a
set_option linter.unusedSimpArgs false
set_option linter.unusedVariables false
set_option maxRecDepth 100000
namespace Go.Proofs.YtoadkchhimojlaaGreat
open Go Go.Fl
open Classical
def sG05b_f24_6 : List (Nat × Nat) := [(0, 0), (0, 0), (0, 0), (0, 0), (0, 0), (0, 0), (0, 0), (0, 0), (0, 1), (0, 0), (0, 0), (1, 1)]
def sG05b_f24_7 : List (Nat × Nat) := [(0, 0), (0, 0), (0, 0), (0, 0), (0, 0), (0, 0), (0, 0), (0, 0), (0, 0), (0, 0), (0, 0), (0, 0), (0, 0), (0, 0), (0, 0), (0, 0), (0, 0), (0, 0)]
def encKK (c : List (List Int)) : List AV := [lK c]
theorem pureKK (l : List (List (List Int))) : pureE (l.map encKK) = True := pureE_map fun _ => rfl
attribute [go_sem] pureKK
abbrev lKK (cs : List (List (List Int))) : AV := .lst false 1 (cs.map encKK)
theorem c45 (a b : Int) : PC Tryz.prog 45 [.lst false 1 [[.int .i64 a], [.int .i64 b]]] (.int .i64 (if a ≠ 0 then a else b)) := by
  refine PC.body Tryz.func45 (by kernel_rfl) rfl (by simp [Tryz.f45]) rfl ?_
  simp only [Tryz.f45]
  intro hlen
  simp only [go_sem, List.length_map, and_true, true_and] at hlen
  refine CV.run ?_
  (repeat' (first | ((with_reducible first | refine vcG_split ?_ ?_ | refine vcIf_split ?_ ?_ | refine vcQ_split ?_ ?_ | refine vcDG_split ?_ ?_) <;> intro hb <;> (try rw [hb]) <;> (try simp only [bq, bz, dtrue, dfalse] at hb) <;> (try simp only [within] at hb) <;> try (simp only [go_sem])) | refine And.intro (by first | exact trivial | omega | (simp only [I64]; omega)) ?_ | (simp only [go_sem])))
  refine vc_for (fun j => ⟨[(8, .int .i64 j), (7, .int .i64 2), (6, .lst false 1 [[.int .i64 a], [.int .i64 b]]), (3, .int .i64 0), (2, .int .i64 0)], []⟩) 2 (fun j => (1 ≤ j → a = 0) ∧ (2 ≤ j → b = 0)) (by (first | exact wk_same (by (simp only [go_sem, Int.natCast_add, cn, Int.cast_ofNat_Int])) | (refine wk_drop ?_ ?_ ?_ ?_ ?_ <;> (simp only [go_sem, Int.natCast_add, cn, Int.cast_ofNat_Int])))) ⟨fun h => by omega, fun h => by omega⟩ ?_
  intro j hj hx
  have hc : j = 0 ∨ j = 1 ∨ j = 2 := by omega
  rcases hc with rfl | rfl | rfl
  · (repeat' (first | ((with_reducible first | refine vcG_split ?_ ?_ | refine vcIf_split ?_ ?_ | refine vcQ_split ?_ ?_ | refine vcDG_split ?_ ?_) <;> intro hb <;> (try rw [hb]) <;> (try simp only [bq, bz, dtrue, dfalse] at hb) <;> (try simp only [within] at hb) <;> try (simp only [go_sem])) | refine And.intro (by first | exact trivial | omega | (simp only [I64]; omega)) ?_ | (simp only [go_sem])))
    · rw [if_pos (by assumption)]
    · exact ⟨by (first | exact wk_same (by (simp only [go_sem, Int.natCast_add, cn, Int.cast_ofNat_Int])) | (refine wk_drop ?_ ?_ ?_ ?_ ?_ <;> (simp only [go_sem, Int.natCast_add, cn, Int.cast_ofNat_Int]))), fun _ => (by first | omega | simpa using hb), fun h => by first | exact h.elim | omega⟩
  · have ha := hx.1 (by omega)
    (repeat' (first | ((with_reducible first | refine vcG_split ?_ ?_ | refine vcIf_split ?_ ?_ | refine vcQ_split ?_ ?_ | refine vcDG_split ?_ ?_) <;> intro hb <;> (try rw [hb]) <;> (try simp only [bq, bz, dtrue, dfalse] at hb) <;> (try simp only [within] at hb) <;> try (simp only [go_sem, ha])) | refine And.intro (by first | exact trivial | omega | (simp only [I64]; omega)) ?_ | (simp only [go_sem, ha])))
    exact ⟨by (first | exact wk_same (by (simp only [go_sem, Int.natCast_add, cn, Int.cast_ofNat_Int])) | (refine wk_drop ?_ ?_ ?_ ?_ ?_ <;> (simp only [go_sem, Int.natCast_add, cn, Int.cast_ofNat_Int]))), fun _ => by first | omega | simpa using hb⟩
  · have ha := hx.1 (by omega)
    have hb := hx.2 (by omega)
    (repeat' (first | ((with_reducible first | refine vcG_split ?_ ?_ | refine vcIf_split ?_ ?_ | refine vcQ_split ?_ ?_ | refine vcDG_split ?_ ?_) <;> intro hb <;> (try rw [hb]) <;> (try simp only [bq, bz, dtrue, dfalse] at hb) <;> (try simp only [within] at hb) <;> try (simp only [go_sem, ha, hb])) | refine And.intro (by first | exact trivial | omega | (simp only [I64]; omega)) ?_ | (simp only [go_sem, ha, hb])))
theorem reach_ok : ∀ {cs : List (List (List Int))} {s b : List Int}, okS s 3 → (∀ c, c ∈ cs → ∀ t, t ∈ c → okS t 3) → reach cs s b → okS b 3
  | [], s, b, hs, _, h => by rw [show b = s from h]; exact hs
  | c :: cs, s, b, hs, hc, ⟨t, h1, h2⟩ => reach_ok (hs.max (hc c (by simp) t h1)) (fun d hd => hc d (by simp [hd])) h2
theorem ok_len12 {cs : List (List (List Int))} (h : ∀ c, c ∈ cs → ∀ t, t ∈ c → okS t 3) : len12 cs := fun c hc t ht => (h c hc t ht).1
theorem fewL_ok {cs : List (List (List Int))} {s b : List Int} (hs : okS s 3) (hc : ∀ c, c ∈ cs → ∀ t, t ∈ c → okS t 3) (h : fewL cs s = some b) : okS b 3 := by
  have := fewL_best cs s (ok_len12 hc) hs.1
  rw [h] at this
  exact reach_ok hs hc this.1
theorem okS.bd {s : List Int} (h : okS s 3) : ∀ n, n ∈ s → 0 ≤ n ∧ n ≤ 1000 := fun n hn => by have := h.2 n hn; omega
theorem okS.sum {s : List Int} (h : okS s 3) : 0 ≤ s.sum ∧ s.sum ≤ 12000 := by
  have := sum_bd h.bd 12
  have e : sumTo s 12 = s.sum := by unfold sumTo; rw [List.take_of_length_le (by rw [h.1]; omega)]
  rw [e] at this
  omega
def fewR (cs : List (List (List Int))) (s : List Int) : AV := .tup [.agg (((fewL cs s).getD zer12).map I), .bool (fewL cs s).isSome]
theorem fewR_pure {cs : List (List (List Int))} {s : List Int} : (fewR cs s).pure = true := by simp [fewR, AV.pure, AV.pureL, pureL_mapI]
set_option maxHeartbeats 8000000 in
theorem c24 : ∀ (cs : List (List (List Int))) (s : List Int), okS s 3 → (∀ c, c ∈ cs → ∀ t, t ∈ c → okS t 3) → (∀ c, c ∈ cs → c.length ≤ 100000) → PC Tryz.prog 24 [.agg (s.map I), lKK cs] (fewR cs s) := by
  intro cs
  induction cs with
  | nil =>
    intro s hs _ _
    refine PC.body Tryz.func24 (by kernel_rfl) rfl (by simp [Tryz.f24]) fewR_pure ?_
    simp only [Tryz.f24]
    intro hlen
    simp only [go_sem, List.length_map, and_true, true_and] at hlen
    refine CV.run ?_
    (repeat' (first | ((with_reducible first | refine vcG_split ?_ ?_ | refine vcIf_split ?_ ?_ | refine vcQ_split ?_ ?_ | refine vcDG_split ?_ ?_) <;> intro hb <;> (try rw [hb]) <;> (try simp only [bq, bz, dtrue, dfalse] at hb) <;> (try simp only [within] at hb) <;> try (simp only [go_sem, allOne_mapI, tk12 hs.1, dr12 hs.1, hs.1, List.length_map, List.append_nil, fewR, fewL, frzL_mapI, Option.getD_some, Option.isSome_some])) | refine And.intro (by first | exact trivial | omega | (simp only [I64]; omega)) ?_ | (with_reducible rw [vc_draw_eq]; first | (refine CV.draw (id := 6) sG05b_f24_6 mixed rfl (by kernel_rfl) ?_; delta sG05b_f24_6) | (refine CV.draw (id := 7) sG05b_f24_7 mixed rfl (by kernel_rfl) ?_; delta sG05b_f24_7)) | (simp only [go_sem, allOne_mapI, tk12 hs.1, dr12 hs.1, hs.1, List.length_map, List.append_nil, fewR, fewL, frzL_mapI, Option.getD_some, Option.isSome_some])))
    all_goals trace_state
  | cons c cs ih =>
    intro s hs hc hcl
    have hcl0 := hcl c (by simp)
    have hcc := hc c (by simp)
    have hcs : ∀ d, d ∈ cs → ∀ t, t ∈ d → okS t 3 := fun d hd => hc d (by simp [hd])
    have hneg : ¬ ((cs.length : Int) + 1 = 0) := by omega
    refine PC.body Tryz.func24 (by kernel_rfl) rfl (by simp [Tryz.f24]) fewR_pure ?_
    simp only [Tryz.f24]
    intro hlen
    simp only [go_sem, List.length_map, and_true, true_and] at hlen
    refine CV.run ?_
    (repeat' (first | ((with_reducible first | refine vcG_split ?_ ?_ | refine vcIf_split ?_ ?_ | refine vcQ_split ?_ ?_ | refine vcDG_split ?_ ?_) <;> intro hb <;> (try rw [hb]) <;> (try simp only [bq, bz, dtrue, dfalse] at hb) <;> (try simp only [within] at hb) <;> try (simp only [go_sem, encKK, hneg, allOne_mapI, tk12 hs.1, dr12 hs.1, hs.1, List.length_map, List.append_nil])) | refine And.intro (by first | exact trivial | omega | (simp only [I64]; omega)) ?_ | (with_reducible rw [vc_draw_eq]; first | (refine CV.draw (id := 6) sG05b_f24_6 mixed rfl (by kernel_rfl) ?_; delta sG05b_f24_6) | (refine CV.draw (id := 7) sG05b_f24_7 mixed rfl (by kernel_rfl) ?_; delta sG05b_f24_7)) | (simp only [go_sem, encKK, hneg, allOne_mapI, tk12 hs.1, dr12 hs.1, hs.1, List.length_map, List.append_nil])))
    refine vc_fx (fun j (x : Option (List Int)) => ⟨[(18, .int .i64 j), (17, .int .i64 c.length), (16, lK c), (1, lKK (c :: cs)), (2, .lp 0 0), (4, .lp 1 0), (5, .bool x.isSome)], [.box 69 (s.map I) false, .box 69 ((x.getD zer12).map I) false]⟩) c.length (fun j x => x = (c.take j).foldl (fun best t => stepB best (fewL cs (joinS s t))) none ∧ ∀ b, x = some b → okS b 3) none (.base (by (first | exact wk_same (by (simp only [go_sem, Int.natCast_add, cn, Int.cast_ofNat_Int, encKK, zer12, I, Option.isSome_none, Option.getD_none])) | (refine wk_drop ?_ ?_ ?_ ?_ ?_ <;> (simp only [go_sem, Int.natCast_add, cn, Int.cast_ofNat_Int, encKK, zer12, I, Option.isSome_none, Option.getD_none]))))) ⟨rfl, fun b h => by cases h⟩ ?_
    intro j x hj ⟨hx, hxb⟩
    have hxk : okS (x.getD zer12) 3 := by
      cases x with
      | none => exact okS.zero.mono (by omega)
      | some b => exact hxb b rfl
    rcases Nat.lt_or_ge j c.length with hlt | hge
    · obtain ⟨t, ht⟩ := get_of hlt
      have hlt' : (j : Int) < c.length := by omega
      have htk := hcc t (List.mem_of_getElem? ht)
      have h44 := c44 s t hs.1 htk.1
      have hj3 : okS (joinS s t) 3 := hs.max htk
      have h24 := ih (joinS s t) hj3 hcs fun d hd => hcl d (by simp [hd])
      have hstep : (c.take (j + 1)).foldl (fun best t => stepB best (fewL cs (joinS s t))) none = stepB x (fewL cs (joinS s t)) := by
        rw [List.take_add_one, ht, List.foldl_append, ← hx]; rfl
      (repeat' (first | ((with_reducible first | refine vcG_split ?_ ?_ | refine vcIf_split ?_ ?_ | refine vcQ_split ?_ ?_ | refine vcDG_split ?_ ?_) <;> intro hb <;> (try rw [hb]) <;> (try simp only [bq, bz, dtrue, dfalse] at hb) <;> (try simp only [within] at hb) <;> try (simp only [go_sem, hlt', ht, encK, encKK, allOne_mapI, tk12 hs.1, dr12 hs.1, hs.1, tk12 htk.1, dr12 htk.1, htk.1, List.length_map, List.append_nil])) | refine And.intro (by first | exact trivial | omega | (simp only [I64]; omega)) ?_ | (with_reducible rw [vc_draw_eq]; first | (refine CV.draw (id := 6) sG05b_f24_6 mixed rfl (by kernel_rfl) ?_; delta sG05b_f24_6) | (refine CV.draw (id := 7) sG05b_f24_7 mixed rfl (by kernel_rfl) ?_; delta sG05b_f24_7)) | (simp only [go_sem, hlt', ht, encK, encKK, allOne_mapI, tk12 hs.1, dr12 hs.1, hs.1, tk12 htk.1, dr12 htk.1, htk.1, List.length_map, List.append_nil])))
      refine dp h44 ⟨pureL_mapI _, by (simp only [go_sem, pureL_mapI]), by (simp only [go_sem, frzL_mapI])⟩ ?_
      (repeat' (first | ((with_reducible first | refine vcG_split ?_ ?_ | refine vcIf_split ?_ ?_ | refine vcQ_split ?_ ?_ | refine vcDG_split ?_ ?_) <;> intro hb <;> (try rw [hb]) <;> (try simp only [bq, bz, dtrue, dfalse] at hb) <;> (try simp only [within] at hb) <;> try (simp only [go_sem, hlt', ht, encK, encKK, allOne_mapI, tk12 hs.1, dr12 hs.1, hs.1, tk12 htk.1, dr12 htk.1, htk.1, List.length_map, List.append_nil])) | refine And.intro (by first | exact trivial | omega | (simp only [I64]; omega)) ?_ | (with_reducible rw [vc_draw_eq]; first | (refine CV.draw (id := 6) sG05b_f24_6 mixed rfl (by kernel_rfl) ?_; delta sG05b_f24_6) | (refine CV.draw (id := 7) sG05b_f24_7 mixed rfl (by kernel_rfl) ?_; delta sG05b_f24_7)) | (simp only [go_sem, hlt', ht, encK, encKK, allOne_mapI, tk12 hs.1, dr12 hs.1, hs.1, tk12 htk.1, dr12 htk.1, htk.1, List.length_map, List.append_nil])))
      refine dp h24 ⟨fewR_pure, by (simp only [go_sem, pureL_mapI]), by (simp only [go_sem, frzL_mapI])⟩ ?_
      have hnk : okS ((fewL cs (joinS s t)).getD zer12) 3 := by
        cases hf : fewL cs (joinS s t) with
        | none => exact okS.zero.mono (by omega)
        | some b => exact fewL_ok hj3 hcs hf
      have hnb : ∀ b, fewL cs (joinS s t) = some b → okS b 3 := fun b hb => fewL_ok hj3 hcs hb
      generalize hN : fewL cs (joinS s t) = N at *
      have hx0 := hxk.1
      cases N with
      | none =>
        have hz := okS.zero.1
        (repeat' (first | ((with_reducible first | refine vcG_split ?_ ?_ | refine vcIf_split ?_ ?_ | refine vcQ_split ?_ ?_ | refine vcDG_split ?_ ?_) <;> intro hb <;> (try rw [hb]) <;> (try simp only [bq, bz, dtrue, dfalse] at hb) <;> (try simp only [within] at hb) <;> try (simp only [go_sem, fewR, hN, hlt', ht, encK, encKK, allOne_mapI, tk12 hs.1, dr12 hs.1, hs.1, tk12 htk.1, dr12 htk.1, htk.1, List.length_map, List.append_nil, Option.isSome_some, Option.isSome_none, Option.getD_some, Option.getD_none, tk12 hz, dr12 hz, hz])) | refine And.intro (by first | exact trivial | omega | (simp only [I64]; omega)) ?_ | (with_reducible rw [vc_draw_eq]; first | (refine CV.draw (id := 6) sG05b_f24_6 mixed rfl (by kernel_rfl) ?_; delta sG05b_f24_6) | (refine CV.draw (id := 7) sG05b_f24_7 mixed rfl (by kernel_rfl) ?_; delta sG05b_f24_7)) | (simp only [go_sem, fewR, hN, hlt', ht, encK, encKK, allOne_mapI, tk12 hs.1, dr12 hs.1, hs.1, tk12 htk.1, dr12 htk.1, htk.1, List.length_map, List.append_nil, Option.isSome_some, Option.isSome_none, Option.getD_some, Option.getD_none, tk12 hz, dr12 hz, hz])))
        refine ⟨x, hlt, .base (by (first | exact wk_same (by (simp only [go_sem, Int.natCast_add, cn, Int.cast_ofNat_Int])) | (refine wk_drop ?_ ?_ ?_ ?_ ?_ <;> (simp only [go_sem, Int.natCast_add, cn, Int.cast_ofNat_Int])))), by rw [hstep, stepB], hxb⟩
      | some n =>
        have hnk := hnb n rfl
        cases x with
        | none =>
          have hz := okS.zero.1
          (repeat' (first | ((with_reducible first | refine vcG_split ?_ ?_ | refine vcIf_split ?_ ?_ | refine vcQ_split ?_ ?_ | refine vcDG_split ?_ ?_) <;> intro hb <;> (try rw [hb]) <;> (try simp only [bq, bz, dtrue, dfalse] at hb) <;> (try simp only [within] at hb) <;> try (simp only [go_sem, fewR, hN, hlt', ht, encK, encKK, allOne_mapI, tk12 hs.1, dr12 hs.1, hs.1, tk12 htk.1, dr12 htk.1, htk.1, List.length_map, List.append_nil, Option.isSome_some, Option.isSome_none, Option.getD_some, Option.getD_none, tk12 hnk.1, dr12 hnk.1, hnk.1, tk12 hz, dr12 hz, hz])) | refine And.intro (by first | exact trivial | omega | (simp only [I64]; omega)) ?_ | (with_reducible rw [vc_draw_eq]; first | (refine CV.draw (id := 6) sG05b_f24_6 mixed rfl (by kernel_rfl) ?_; delta sG05b_f24_6) | (refine CV.draw (id := 7) sG05b_f24_7 mixed rfl (by kernel_rfl) ?_; delta sG05b_f24_7)) | (simp only [go_sem, fewR, hN, hlt', ht, encK, encKK, allOne_mapI, tk12 hs.1, dr12 hs.1, hs.1, tk12 htk.1, dr12 htk.1, htk.1, List.length_map, List.append_nil, Option.isSome_some, Option.isSome_none, Option.getD_some, Option.getD_none, tk12 hnk.1, dr12 hnk.1, hnk.1, tk12 hz, dr12 hz, hz])))
          refine ⟨some n, hlt, .base (by (first | exact wk_same (by (simp only [go_sem, Int.natCast_add, cn, Int.cast_ofNat_Int, Option.isSome_some, Option.getD_some])) | (refine wk_drop ?_ ?_ ?_ ?_ ?_ <;> (simp only [go_sem, Int.natCast_add, cn, Int.cast_ofNat_Int, Option.isSome_some, Option.getD_some])))), by rw [hstep]; rfl, fun b hb => by cases hb; exact hnk⟩
        | some b =>
          have hbk := hxb b rfl
          have hns := hnk.sum
          have hbs := hbk.sum
          have i1 : I64 (n.sum - b.sum) = True := eq_true (by unfold I64; omega)
          have h46n := c46 n hnk.1 hnk.bd
          have h46b := c46 b hbk.1 hbk.bd
          have h47 := c47 n b hnk.1 hbk.1
          have h45 : PC Tryz.prog 45 [.lst false 1 [[.int .i64 (n.sum - b.sum)], [.int .i64 (befS n b 0 4)]]] (.int .i64 (cmpS n b)) := c45 _ _
          (repeat' (first | ((with_reducible first | refine vcG_split ?_ ?_ | refine vcIf_split ?_ ?_ | refine vcQ_split ?_ ?_ | refine vcDG_split ?_ ?_) <;> intro hb <;> (try rw [hb]) <;> (try simp only [bq, bz, dtrue, dfalse] at hb) <;> (try simp only [within] at hb) <;> try (simp only [go_sem, fewR, hN, hlt', ht, encK, encKK, allOne_mapI, tk12 hs.1, dr12 hs.1, hs.1, tk12 htk.1, dr12 htk.1, htk.1, List.length_map, List.append_nil, Option.isSome_some, Option.isSome_none, Option.getD_some, Option.getD_none, tk12 hnk.1, dr12 hnk.1, hnk.1, tk12 hbk.1, dr12 hbk.1, hbk.1])) | refine And.intro (by first | exact trivial | omega | (simp only [I64]; omega)) ?_ | (with_reducible rw [vc_draw_eq]; first | (refine CV.draw (id := 6) sG05b_f24_6 mixed rfl (by kernel_rfl) ?_; delta sG05b_f24_6) | (refine CV.draw (id := 7) sG05b_f24_7 mixed rfl (by kernel_rfl) ?_; delta sG05b_f24_7)) | (simp only [go_sem, fewR, hN, hlt', ht, encK, encKK, allOne_mapI, tk12 hs.1, dr12 hs.1, hs.1, tk12 htk.1, dr12 htk.1, htk.1, List.length_map, List.append_nil, Option.isSome_some, Option.isSome_none, Option.getD_some, Option.getD_none, tk12 hnk.1, dr12 hnk.1, hnk.1, tk12 hbk.1, dr12 hbk.1, hbk.1])))
          refine dp h46n ⟨rfl, by (simp only [go_sem, pureL_mapI]), by (simp only [go_sem, frzL_mapI])⟩ ?_
          (repeat' (first | ((with_reducible first | refine vcG_split ?_ ?_ | refine vcIf_split ?_ ?_ | refine vcQ_split ?_ ?_ | refine vcDG_split ?_ ?_) <;> intro hb <;> (try rw [hb]) <;> (try simp only [bq, bz, dtrue, dfalse] at hb) <;> (try simp only [within] at hb) <;> try (simp only [go_sem, fewR, hN, hlt', ht, encK, encKK, allOne_mapI, tk12 hs.1, dr12 hs.1, hs.1, tk12 htk.1, dr12 htk.1, htk.1, List.length_map, List.append_nil, Option.isSome_some, Option.isSome_none, Option.getD_some, Option.getD_none, tk12 hnk.1, dr12 hnk.1, hnk.1, tk12 hbk.1, dr12 hbk.1, hbk.1])) | refine And.intro (by first | exact trivial | omega | (simp only [I64]; omega)) ?_ | (with_reducible rw [vc_draw_eq]; first | (refine CV.draw (id := 6) sG05b_f24_6 mixed rfl (by kernel_rfl) ?_; delta sG05b_f24_6) | (refine CV.draw (id := 7) sG05b_f24_7 mixed rfl (by kernel_rfl) ?_; delta sG05b_f24_7)) | (simp only [go_sem, fewR, hN, hlt', ht, encK, encKK, allOne_mapI, tk12 hs.1, dr12 hs.1, hs.1, tk12 htk.1, dr12 htk.1, htk.1, List.length_map, List.append_nil, Option.isSome_some, Option.isSome_none, Option.getD_some, Option.getD_none, tk12 hnk.1, dr12 hnk.1, hnk.1, tk12 hbk.1, dr12 hbk.1, hbk.1])))
          refine dp h46b ⟨rfl, by (simp only [go_sem, pureL_mapI]), by (simp only [go_sem, frzL_mapI])⟩ ?_
          (repeat' (first | ((with_reducible first | refine vcG_split ?_ ?_ | refine vcIf_split ?_ ?_ | refine vcQ_split ?_ ?_ | refine vcDG_split ?_ ?_) <;> intro hb <;> (try rw [hb]) <;> (try simp only [bq, bz, dtrue, dfalse] at hb) <;> (try simp only [within] at hb) <;> try (simp only [go_sem, fewR, hN, hlt', ht, encK, encKK, allOne_mapI, tk12 hs.1, dr12 hs.1, hs.1, tk12 htk.1, dr12 htk.1, htk.1, List.length_map, List.append_nil, Option.isSome_some, Option.isSome_none, Option.getD_some, Option.getD_none, i1, tk12 hnk.1, dr12 hnk.1, hnk.1, tk12 hbk.1, dr12 hbk.1, hbk.1])) | refine And.intro (by first | exact trivial | omega | (simp only [I64]; omega)) ?_ | (with_reducible rw [vc_draw_eq]; first | (refine CV.draw (id := 6) sG05b_f24_6 mixed rfl (by kernel_rfl) ?_; delta sG05b_f24_6) | (refine CV.draw (id := 7) sG05b_f24_7 mixed rfl (by kernel_rfl) ?_; delta sG05b_f24_7)) | (simp only [go_sem, fewR, hN, hlt', ht, encK, encKK, allOne_mapI, tk12 hs.1, dr12 hs.1, hs.1, tk12 htk.1, dr12 htk.1, htk.1, List.length_map, List.append_nil, Option.isSome_some, Option.isSome_none, Option.getD_some, Option.getD_none, i1, tk12 hnk.1, dr12 hnk.1, hnk.1, tk12 hbk.1, dr12 hbk.1, hbk.1])))
          refine dp h47 ⟨rfl, by (simp only [go_sem, pureL_mapI]), by (simp only [go_sem, frzL_mapI])⟩ ?_
          (repeat' (first | ((with_reducible first | refine vcG_split ?_ ?_ | refine vcIf_split ?_ ?_ | refine vcQ_split ?_ ?_ | refine vcDG_split ?_ ?_) <;> intro hb <;> (try rw [hb]) <;> (try simp only [bq, bz, dtrue, dfalse] at hb) <;> (try simp only [within] at hb) <;> try (simp only [go_sem, fewR, hN, hlt', ht, encK, encKK, allOne_mapI, tk12 hs.1, dr12 hs.1, hs.1, tk12 htk.1, dr12 htk.1, htk.1, List.length_map, List.append_nil, Option.isSome_some, Option.isSome_none, Option.getD_some, Option.getD_none, i1, tk12 hnk.1, dr12 hnk.1, hnk.1, tk12 hbk.1, dr12 hbk.1, hbk.1])) | refine And.intro (by first | exact trivial | omega | (simp only [I64]; omega)) ?_ | (with_reducible rw [vc_draw_eq]; first | (refine CV.draw (id := 6) sG05b_f24_6 mixed rfl (by kernel_rfl) ?_; delta sG05b_f24_6) | (refine CV.draw (id := 7) sG05b_f24_7 mixed rfl (by kernel_rfl) ?_; delta sG05b_f24_7)) | (simp only [go_sem, fewR, hN, hlt', ht, encK, encKK, allOne_mapI, tk12 hs.1, dr12 hs.1, hs.1, tk12 htk.1, dr12 htk.1, htk.1, List.length_map, List.append_nil, Option.isSome_some, Option.isSome_none, Option.getD_some, Option.getD_none, i1, tk12 hnk.1, dr12 hnk.1, hnk.1, tk12 hbk.1, dr12 hbk.1, hbk.1])))
          refine dp h45 ⟨rfl, rfl, by (simp only [go_sem])⟩ ?_
          by_cases hlt : cmpS n b < 0
          · (repeat' (first | ((with_reducible first | refine vcG_split ?_ ?_ | refine vcIf_split ?_ ?_ | refine vcQ_split ?_ ?_ | refine vcDG_split ?_ ?_) <;> intro hb <;> (try rw [hb]) <;> (try simp only [bq, bz, dtrue, dfalse] at hb) <;> (try simp only [within] at hb) <;> try (simp only [go_sem, fewR, hN, hlt', ht, encK, encKK, allOne_mapI, tk12 hs.1, dr12 hs.1, hs.1, tk12 htk.1, dr12 htk.1, htk.1, List.length_map, List.append_nil, Option.isSome_some, Option.isSome_none, Option.getD_some, Option.getD_none, i1, hlt, tk12 hnk.1, dr12 hnk.1, hnk.1, tk12 hbk.1, dr12 hbk.1, hbk.1])) | refine And.intro (by first | exact trivial | omega | (simp only [I64]; omega)) ?_ | (with_reducible rw [vc_draw_eq]; first | (refine CV.draw (id := 6) sG05b_f24_6 mixed rfl (by kernel_rfl) ?_; delta sG05b_f24_6) | (refine CV.draw (id := 7) sG05b_f24_7 mixed rfl (by kernel_rfl) ?_; delta sG05b_f24_7)) | (simp only [go_sem, fewR, hN, hlt', ht, encK, encKK, allOne_mapI, tk12 hs.1, dr12 hs.1, hs.1, tk12 htk.1, dr12 htk.1, htk.1, List.length_map, List.append_nil, Option.isSome_some, Option.isSome_none, Option.getD_some, Option.getD_none, i1, hlt, tk12 hnk.1, dr12 hnk.1, hnk.1, tk12 hbk.1, dr12 hbk.1, hbk.1])))
            refine ⟨some n, by assumption, .base (by (first | exact wk_same (by (simp only [go_sem, Int.natCast_add, cn, Int.cast_ofNat_Int, Option.isSome_some, Option.getD_some])) | (refine wk_drop ?_ ?_ ?_ ?_ ?_ <;> (simp only [go_sem, Int.natCast_add, cn, Int.cast_ofNat_Int, Option.isSome_some, Option.getD_some])))), by rw [hstep]; simp [stepB, hlt], fun b hb => by cases hb; exact hnk⟩
          · (repeat' (first | ((with_reducible first | refine vcG_split ?_ ?_ | refine vcIf_split ?_ ?_ | refine vcQ_split ?_ ?_ | refine vcDG_split ?_ ?_) <;> intro hb <;> (try rw [hb]) <;> (try simp only [bq, bz, dtrue, dfalse] at hb) <;> (try simp only [within] at hb) <;> try (simp only [go_sem, fewR, hN, hlt', ht, encK, encKK, allOne_mapI, tk12 hs.1, dr12 hs.1, hs.1, tk12 htk.1, dr12 htk.1, htk.1, List.length_map, List.append_nil, Option.isSome_some, Option.isSome_none, Option.getD_some, Option.getD_none, i1, hlt, tk12 hnk.1, dr12 hnk.1, hnk.1, tk12 hbk.1, dr12 hbk.1, hbk.1])) | refine And.intro (by first | exact trivial | omega | (simp only [I64]; omega)) ?_ | (with_reducible rw [vc_draw_eq]; first | (refine CV.draw (id := 6) sG05b_f24_6 mixed rfl (by kernel_rfl) ?_; delta sG05b_f24_6) | (refine CV.draw (id := 7) sG05b_f24_7 mixed rfl (by kernel_rfl) ?_; delta sG05b_f24_7)) | (simp only [go_sem, fewR, hN, hlt', ht, encK, encKK, allOne_mapI, tk12 hs.1, dr12 hs.1, hs.1, tk12 htk.1, dr12 htk.1, htk.1, List.length_map, List.append_nil, Option.isSome_some, Option.isSome_none, Option.getD_some, Option.getD_none, i1, hlt, tk12 hnk.1, dr12 hnk.1, hnk.1, tk12 hbk.1, dr12 hbk.1, hbk.1])))
            refine ⟨some b, by assumption, .base (by (first | exact wk_same (by (simp only [go_sem, Int.natCast_add, cn, Int.cast_ofNat_Int, Option.isSome_some, Option.getD_some])) | (refine wk_drop ?_ ?_ ?_ ?_ ?_ <;> (simp only [go_sem, Int.natCast_add, cn, Int.cast_ofNat_Int, Option.isSome_some, Option.getD_some])))), by rw [hstep]; simp [stepB, hlt], fun b hb => by cases hb; exact hbk⟩
    · have hge' : ¬ (j : Int) < c.length := by omega
      have : j = c.length := by omega
      subst this
      rw [List.take_length] at hx
      subst hx
      (repeat' (first | ((with_reducible first | refine vcG_split ?_ ?_ | refine vcIf_split ?_ ?_ | refine vcQ_split ?_ ?_ | refine vcDG_split ?_ ?_) <;> intro hb <;> (try rw [hb]) <;> (try simp only [bq, bz, dtrue, dfalse] at hb) <;> (try simp only [within] at hb) <;> try (simp only [go_sem, hge', allOne_mapI, tk12 hxk.1, dr12 hxk.1, hxk.1, List.length_map, List.append_nil, fewR, fewL, frzL_mapI])) | refine And.intro (by first | exact trivial | omega | (simp only [I64]; omega)) ?_ | (with_reducible rw [vc_draw_eq]; first | (refine CV.draw (id := 6) sG05b_f24_6 mixed rfl (by kernel_rfl) ?_; delta sG05b_f24_6) | (refine CV.draw (id := 7) sG05b_f24_7 mixed rfl (by kernel_rfl) ?_; delta sG05b_f24_7)) | (simp only [go_sem, hge', allOne_mapI, tk12 hxk.1, dr12 hxk.1, hxk.1, List.length_map, List.append_nil, fewR, fewL, frzL_mapI])))
      all_goals trace_state
end Go.Proofs.YtoadkchhimojlaaGreat

