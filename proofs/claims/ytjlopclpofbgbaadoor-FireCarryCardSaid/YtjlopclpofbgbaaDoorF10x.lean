/- Contracts of functions of the given program, without a condition beyond those that each theorem states; they lead to the given statement. -/
import Derived.Test.YtjlopclpofbgbaaDoorF10t
set_option linter.unusedSimpArgs false
set_option linter.unusedVariables false
set_option maxRecDepth 100000
namespace Go.Proofs.YtjlopclpofbgbaaDoor
open Go Go.Fl
open Classical
def sF10x_f57_1 : List (Nat × Nat) := [(0, 0), (0, 0), (0, 0), (0, 0), (0, 0), (0, 0), (0, 0), (0, 0), (0, 0), (0, 0)]
def bearL (t : Town) (L : List Int) (c : Nat) : Prop := ∃ x, x ∈ L ∧ (gv t.pl x = c ∧ fr t x)
noncomputable def brs (t : Town) (p : Int) : Int := (sel (bearL t (thg t p)) t.rm.length).length - 1
def bearN (t : Town) (p : Int) (j c : Nat) : Prop := ∃ i : Nat, i < j ∧ pg t i = p ∧ fr t i ∧ gv t.pl i = c
theorem bearN_L {t : Town} {p : Int} {c : Nat} : bearN t p t.ts.length c ↔ bearL t (thg t p) c := by
  constructor
  · rintro ⟨i, h1, h2, h3, h4⟩
    exact ⟨i, thg_mem.2 ⟨by omega, by omega, h3.1, h2⟩, h4, h3⟩
  · rintro ⟨x, h1, h2, h3⟩
    obtain ⟨y1, y2, y3, y4⟩ := thg_mem.1 h1
    have e : ((x.toNat : Nat) : Int) = x := by omega
    exact ⟨x.toNat, by omega, by rw [e]; exact ⟨y4, h3, h2⟩⟩
theorem msk_put (q : Nat → Prop) {c : Nat} (h : c < 3) : (((msk q 3).toNat ||| ((1 : Int) * 2 ^ c).toNat : Nat) : Int) = msk (fun k => q k ∨ k = c) 3 := by
  rw [msk3, msk3]
  have : c = 0 ∨ c = 1 ∨ c = 2 := by omega
  rcases this with rfl | rfl | rfl <;> by_cases h0 : q 0 <;> by_cases h1 : q 1 <;> by_cases h2 : q 2 <;> simp [h0, h1, h2]
theorem msk_cnt (q : Nat → Prop) : msk q 3 % 2 + msk q 3 / 2 % 2 + msk q 3 / 4 = (sel q 3).length := by
  rw [msk3]
  by_cases h0 : q 0 <;> by_cases h1 : q 1 <;> by_cases h2 : q 2 <;> simp [h0, h1, h2, sel]
theorem sel_ext {q : Nat → Prop} {n m : Nat} (h : ∀ c, q c → c < n) (hm : n ≤ m) : sel q m = sel q n := by
  induction m with
  | zero => have : n = 0 := by omega
            subst this; rfl
  | succ m ih =>
    rcases Nat.lt_or_ge n (m + 1) with h1 | h1
    · rw [sel_no fun hq => by have := h m hq; omega, ih (by omega)]
    · have : n = m + 1 := by omega
      rw [this]
theorem pl_bnd {t : Town} (hv : validT t) {i : Nat} (h : i < t.ts.length) : 0 ≤ gv t.pl i ∧ gv t.pl i < t.rm.length := by
  obtain ⟨c, hc⟩ := get_of (l := t.pl) (j := i) (by rw [hv.lp]; exact h)
  rw [gv_nat hc]
  have := hv.2.2.2.2.1 c (List.mem_of_getElem? hc)
  unfold within at this
  omega
theorem c57n (t : Town) (p : Int) (h : ¬ (validT t ∧ isPage t p)) : PC Tryd.prog 57 [hF t, .int .i64 p] (.tup [.int .i64 0, .int .i64 (askT t (isPage t p))]) := by
  have h75 := c75 t p
  have h67 := c67n t (isPage t p) h
  have hne := ask_ne h
  refine PC.body Tryd.func57 (by kernel_rfl) rfl (by simp [Tryd.f57]) rfl ?_
  simp only [Tryd.f57]
  intro hlen
  simp only [go_sem, List.length_map, and_true, true_and] at hlen
  refine CV.run ?_
  (repeat' (first | ((with_reducible first | apply sg | apply si | apply sq | apply sd) <;> intro hb <;> (try rw [hb]) <;> (try simp only [bq, bz, dtrue, dfalse] at hb) <;> (try simp only [within] at hb) <;> try simp only [go_sem]) | refine And.intro (by first | exact ⟨⟩ | omega | (simp only [I64]; omega)) ?_ | (with_reducible rw [vc_draw_eq]; first | (refine CV.draw (id := 1) sF10x_f57_1 mixed rfl (by kernel_rfl) ?_; delta sF10x_f57_1)) | ((with_reducible first | refine vp h75 ?_ ?_ | refine dc h75 ?_ ?_ | refine vp h67 ?_ ?_ | refine dc h67 ?_ ?_); focus (first | exact ⟨rfl, .inl ⟨by first | rfl | (simp only [go_sem, hne, AV.pureL, AV.pure]; done), by first | (simp only [go_sem, hne, AV.pureL, AV.pure]; done) | rfl⟩⟩ | exact ⟨rfl, .inr ⟨rfl, by simp only [go_sem, hne]⟩⟩)) | ((with_reducible first | refine dp h75 ?_ ?_ | refine dp h67 ?_ ?_); focus (exact ⟨rfl, by first | rfl | (simp only [go_sem, hne, AV.pureL, AV.pure]; done), by first | (simp only [go_sem, hne, AV.pureL, AV.pure]; done) | rfl⟩)) | ((with_reducible first | refine ds h75 ?_ ?_ | refine ds h67 ?_ ?_); focus exact ⟨rfl, rfl⟩) | (simp only [go_sem, hne])))
set_option maxHeartbeats 1000000 in
theorem c57y (t : Town) (p : Int) (hv : validT t) (hp : isPage t p) : PC Tryd.prog 57 [hF t, .int .i64 p] (if thg t p = [] then .tup [.int .i64 0, .int .i64 3] else .tup [.int .i64 (brs t p), .int .i64 0]) := by
  have h8 := hv.len
  have hpl := hv.lp
  have hr := hv.2.1
  unfold within at hr
  have h75 := (c75 t p).tru hp
  have h67 := c67y t hv
  have gl : (gs t t.ts.length).length = t.ts.length := gs_len
  have hpw := hp.1
  unfold within at hpw
  have hIp : I64 p = True := eq_true (by simp only [I64]; omega)
  obtain ⟨pn, rfl⟩ : ∃ n : Nat, p = n := ⟨p.toNat, by omega⟩
  have hin := inG_iff hv.things (p := pn) (by omega)
  by_cases h : thg t (pn : Int) = []
  · rw [if_pos h]
    have em : mG t t.ts.length (pn : Int) = none := if_neg fun hh => (hin.1 hh).2 h
    refine PC.body Tryd.func57 (by kernel_rfl) rfl (by simp [Tryd.f57]) rfl ?_
    simp only [Tryd.f57]
    intro hlen
    simp only [go_sem, List.length_map, and_true, true_and] at hlen
    refine CV.run ?_
    (repeat' (first | ((with_reducible first | apply sg | apply si | apply sq | apply sd) <;> intro hb <;> (try rw [hb]) <;> (try simp only [bq, bz, dtrue, dfalse] at hb) <;> (try simp only [within] at hb) <;> try simp only [go_sem]) | refine And.intro (by first | exact ⟨⟩ | omega | (simp only [I64]; omega)) ?_ | (with_reducible rw [vc_draw_eq]; first | (refine CV.draw (id := 1) sF10x_f57_1 mixed rfl (by kernel_rfl) ?_; delta sF10x_f57_1)) | ((with_reducible first | refine vp h75 ?_ ?_ | refine dc h75 ?_ ?_ | refine vp h67 ?_ ?_ | refine dc h67 ?_ ?_); focus (first | exact ⟨rfl, .inl ⟨by first | rfl | (simp only [go_sem, hIp, em, Option.isSome_none, AV.pureL, AV.pure]; done), by first | (simp only [go_sem, hIp, em, Option.isSome_none, AV.pureL, AV.pure]; done) | rfl⟩⟩ | exact ⟨rfl, .inr ⟨rfl, by simp only [go_sem, hIp, em, Option.isSome_none]⟩⟩)) | ((with_reducible first | refine dp h75 ?_ ?_ | refine dp h67 ?_ ?_); focus (exact ⟨rfl, by first | rfl | (simp only [go_sem, hIp, em, Option.isSome_none, AV.pureL, AV.pure]; done), by first | (simp only [go_sem, hIp, em, Option.isSome_none, AV.pureL, AV.pure]; done) | rfl⟩)) | ((with_reducible first | refine ds h75 ?_ ?_ | refine ds h67 ?_ ?_); focus exact ⟨rfl, rfl⟩) | (simp only [go_sem, hIp, em, Option.isSome_none])))
  · rw [if_neg h]
    have em : mG t t.ts.length (pn : Int) = some (msk (hsG t t.ts.length pn) 3) := if_pos (hin.2 ⟨hp, h⟩)
    have hbr : brs t pn = (sel (bearN t pn t.ts.length) 3).length - 1 := by
      unfold brs
      rw [sel_congr t.rm.length fun c _ => (bearN_L (t := t) (p := pn) (c := c)).symm, ← sel_ext (q := bearN t pn t.ts.length) (n := t.rm.length) (m := 3) ?_ (by omega)]
      rintro c ⟨i, h1, _, _, h4⟩
      have := pl_bnd hv h1
      omega
    have h96 := fun q => c96 (msk q 3) (by have := msk_bnd q 3; omega) (by have := msk_bnd q 3; omega)
    have h96' := h96 (bearN t pn t.ts.length)
    rw [msk_cnt] at h96'
    have hs3 := sel_len (bearN t pn t.ts.length) 3
    rw [hbr]
    refine PC.body Tryd.func57 (by kernel_rfl) rfl (by simp [Tryd.f57]) rfl ?_
    simp only [Tryd.f57]
    intro hlen
    simp only [go_sem, List.length_map, and_true, true_and] at hlen
    refine CV.run ?_
    (repeat' (first | ((with_reducible first | apply sg | apply si | apply sq | apply sd) <;> intro hb <;> (try rw [hb]) <;> (try simp only [bq, bz, dtrue, dfalse] at hb) <;> (try simp only [within] at hb) <;> try simp only [go_sem]) | refine And.intro (by first | exact ⟨⟩ | omega | (simp only [I64]; omega)) ?_ | (with_reducible rw [vc_draw_eq]; first | (refine CV.draw (id := 1) sF10x_f57_1 mixed rfl (by kernel_rfl) ?_; delta sF10x_f57_1)) | ((with_reducible first | refine vp h75 ?_ ?_ | refine dc h75 ?_ ?_ | refine vp h67 ?_ ?_ | refine dc h67 ?_ ?_); focus (first | exact ⟨rfl, .inl ⟨by first | rfl | (simp only [go_sem, hIp, em, Option.isSome_some, AV.pureL, AV.pure]; done), by first | (simp only [go_sem, hIp, em, Option.isSome_some, AV.pureL, AV.pure]; done) | rfl⟩⟩ | exact ⟨rfl, .inr ⟨rfl, by simp only [go_sem, hIp, em, Option.isSome_some]⟩⟩)) | ((with_reducible first | refine dp h75 ?_ ?_ | refine dp h67 ?_ ?_); focus (exact ⟨rfl, by first | rfl | (simp only [go_sem, hIp, em, Option.isSome_some, AV.pureL, AV.pure]; done), by first | (simp only [go_sem, hIp, em, Option.isSome_some, AV.pureL, AV.pure]; done) | rfl⟩)) | ((with_reducible first | refine ds h75 ?_ ?_ | refine ds h67 ?_ ?_); focus exact ⟨rfl, rfl⟩) | (simp only [go_sem, hIp, em, Option.isSome_some])))
    refine vc_for (fun j => ⟨[(40, .int .i64 j), (39, .int .i64 t.ts.length), (38, .lst false 3 (gs t t.ts.length)), (1, .int .i64 pn), (2, .lp 0 0), (4, .int .i64 0), (5, .int .i64 0), (6, hG t), (10, .int .u64 (msk (bearN t pn j) 3))], [.box 28 (cT t) false]⟩) t.ts.length (fun _ => True) (by (first | exact wk_same (by simp only [go_sem, Int.natCast_add, cn, Int.cast_ofNat_Int, gl, msk_no 3 (fun c _ (h : bearN t pn 0 c) => by obtain ⟨i, hi, _⟩ := h; omega)]) | (refine wk_drop ?_ ?_ ?_ ?_ ?_ <;> simp only [go_sem, Int.natCast_add, cn, Int.cast_ofNat_Int, gl, msk_no 3 (fun c _ (h : bearN t pn 0 c) => by obtain ⟨i, hi, _⟩ := h; omega)]))) trivial ?_
    intro j hj _
    have hmb := msk_bnd (bearN t pn j) 3
    have hu2 : U64 (msk (bearN t pn j) 3) := ⟨by omega, by omega⟩
    rcases Nat.lt_or_ge j t.ts.length with hlt | hge
    · have hlt' : (j : Int) < t.ts.length := by omega
      have hg := gs_get (t := t) hlt
      have h88 := c88 t hv.things h8 j hlt
      have hplb := pl_bnd hv hlt
      obtain ⟨c, hc⟩ : ∃ c : Nat, gv t.pl j = c := ⟨(gv t.pl j).toNat, by omega⟩
      obtain ⟨y, hy⟩ := get_of (l := t.pl) (j := j) (by omega)
      have hyc : y = c := by rw [← hc, gv_nat hy]
      subst hyc
      have hjp : (j : Int) < t.pl.length := by omega
      have hc3 : c < 3 := by omega
      have hput := msk_put (bearN t pn j) hc3
      have h2c : (2 : Int) ^ c ≤ 4 ∧ 0 < (2 : Int) ^ c := by
        have : c = 0 ∨ c = 1 ∨ c = 2 := by omega
        rcases this with rfl | rfl | rfl <;> decide
      have hu1 : U64 (1 * 2 ^ c) := ⟨by omega, by omega⟩
      rw [encG] at hg
      by_cases a1 : pg t j = pn
      · have a1' := eq_true a1
        by_cases a2 : fr t j
        · have e : msk (bearN t pn (j + 1)) 3 = msk (fun k => bearN t pn j k ∨ k = c) 3 := msk_congr 3 fun k _ => by
            constructor
            · rintro ⟨i, i1, i2, i3, i4⟩
              rcases Nat.lt_or_ge i j with q | q
              · exact .inl ⟨i, q, i2, i3, i4⟩
              · have : i = j := by omega
                subst this; rw [hc] at i4; exact .inr (by omega)
            · rintro (⟨i, i1, i2, i3, i4⟩ | rfl)
              · exact ⟨i, by omega, i2, i3, i4⟩
              · exact ⟨j, by omega, a1, a2, hc⟩
          replace h88 := h88.tru a2
          (repeat' (first | ((with_reducible first | apply sg | apply si | apply sq | apply sd) <;> intro hb <;> (try rw [hb]) <;> (try simp only [bq, bz, dtrue, dfalse] at hb) <;> (try simp only [within] at hb) <;> try simp only [go_sem]) | refine And.intro (by first | exact ⟨⟩ | omega | (simp only [I64]; omega)) ?_ | (with_reducible rw [vc_draw_eq]; first | (refine CV.draw (id := 1) sF10x_f57_1 mixed rfl (by kernel_rfl) ?_; delta sF10x_f57_1)) | ((with_reducible first | refine vp h88 ?_ ?_ | refine dc h88 ?_ ?_); focus (first | exact ⟨rfl, .inl ⟨by first | rfl | (simp only [go_sem, hlt', hg, gl, a1', hy, hjp, hput, hu1, hu2, encN, List.length_map, AV.pureL, AV.pure]; done), by first | (simp only [go_sem, hlt', hg, gl, a1', hy, hjp, hput, hu1, hu2, encN, List.length_map, AV.pureL, AV.pure]; done) | rfl⟩⟩ | exact ⟨rfl, .inr ⟨rfl, by simp only [go_sem, hlt', hg, gl, a1', hy, hjp, hput, hu1, hu2, encN, List.length_map]⟩⟩)) | ((with_reducible first | refine dp h88 ?_ ?_); focus (exact ⟨rfl, by first | rfl | (simp only [go_sem, hlt', hg, gl, a1', hy, hjp, hput, hu1, hu2, encN, List.length_map, AV.pureL, AV.pure]; done), by first | (simp only [go_sem, hlt', hg, gl, a1', hy, hjp, hput, hu1, hu2, encN, List.length_map, AV.pureL, AV.pure]; done) | rfl⟩)) | ((with_reducible first | refine ds h88 ?_ ?_); focus exact ⟨rfl, rfl⟩) | (simp only [go_sem, hlt', hg, gl, a1', hy, hjp, hput, hu1, hu2, encN, List.length_map])))
          all_goals first
            | omega
            | exact (by (first | exact wk_same (by simp only [go_sem, Int.natCast_add, cn, Int.cast_ofNat_Int, e]) | (refine wk_drop ?_ ?_ ?_ ?_ ?_ <;> simp only [go_sem, Int.natCast_add, cn, Int.cast_ofNat_Int, e])))
        · have e : msk (bearN t pn (j + 1)) 3 = msk (bearN t pn j) 3 := msk_congr 3 fun k _ => by
            constructor
            · rintro ⟨i, i1, i2, i3, i4⟩
              rcases Nat.lt_or_ge i j with q | q
              · exact ⟨i, q, i2, i3, i4⟩
              · have : i = j := by omega
                subst this; exact absurd i3 a2
            · rintro ⟨i, i1, i2, i3, i4⟩
              exact ⟨i, by omega, i2, i3, i4⟩
          replace h88 := h88.fls a2
          (repeat' (first | ((with_reducible first | apply sg | apply si | apply sq | apply sd) <;> intro hb <;> (try rw [hb]) <;> (try simp only [bq, bz, dtrue, dfalse] at hb) <;> (try simp only [within] at hb) <;> try simp only [go_sem]) | refine And.intro (by first | exact ⟨⟩ | omega | (simp only [I64]; omega)) ?_ | (with_reducible rw [vc_draw_eq]; first | (refine CV.draw (id := 1) sF10x_f57_1 mixed rfl (by kernel_rfl) ?_; delta sF10x_f57_1)) | ((with_reducible first | refine vp h88 ?_ ?_ | refine dc h88 ?_ ?_); focus (first | exact ⟨rfl, .inl ⟨by first | rfl | (simp only [go_sem, hlt', hg, gl, a1', encN, List.length_map, AV.pureL, AV.pure]; done), by first | (simp only [go_sem, hlt', hg, gl, a1', encN, List.length_map, AV.pureL, AV.pure]; done) | rfl⟩⟩ | exact ⟨rfl, .inr ⟨rfl, by simp only [go_sem, hlt', hg, gl, a1', encN, List.length_map]⟩⟩)) | ((with_reducible first | refine dp h88 ?_ ?_); focus (exact ⟨rfl, by first | rfl | (simp only [go_sem, hlt', hg, gl, a1', encN, List.length_map, AV.pureL, AV.pure]; done), by first | (simp only [go_sem, hlt', hg, gl, a1', encN, List.length_map, AV.pureL, AV.pure]; done) | rfl⟩)) | ((with_reducible first | refine ds h88 ?_ ?_); focus exact ⟨rfl, rfl⟩) | (simp only [go_sem, hlt', hg, gl, a1', encN, List.length_map])))
          exact (by (first | exact wk_same (by simp only [go_sem, Int.natCast_add, cn, Int.cast_ofNat_Int, e]) | (refine wk_drop ?_ ?_ ?_ ?_ ?_ <;> simp only [go_sem, Int.natCast_add, cn, Int.cast_ofNat_Int, e])))
      · have e : msk (bearN t pn (j + 1)) 3 = msk (bearN t pn j) 3 := msk_congr 3 fun k _ => by
          constructor
          · rintro ⟨i, i1, i2, i3, i4⟩
            rcases Nat.lt_or_ge i j with q | q
            · exact ⟨i, q, i2, i3, i4⟩
            · have : i = j := by omega
              subst this; exact absurd i2 a1
          · rintro ⟨i, i1, i2, i3, i4⟩
            exact ⟨i, by omega, i2, i3, i4⟩
        (repeat' (first | ((with_reducible first | apply sg | apply si | apply sq | apply sd) <;> intro hb <;> (try rw [hb]) <;> (try simp only [bq, bz, dtrue, dfalse] at hb) <;> (try simp only [within] at hb) <;> try simp only [go_sem]) | refine And.intro (by first | exact ⟨⟩ | omega | (simp only [I64]; omega)) ?_ | (with_reducible rw [vc_draw_eq]; first | (refine CV.draw (id := 1) sF10x_f57_1 mixed rfl (by kernel_rfl) ?_; delta sF10x_f57_1)) | (simp only [go_sem, hlt', hg, gl, a1, encN, List.length_map])))
        exact (by (first | exact wk_same (by simp only [go_sem, Int.natCast_add, cn, Int.cast_ofNat_Int, e]) | (refine wk_drop ?_ ?_ ?_ ?_ ?_ <;> simp only [go_sem, Int.natCast_add, cn, Int.cast_ofNat_Int, e])))
    · have hge' : ¬ (j : Int) < t.ts.length := by omega
      have : j = t.ts.length := by omega
      subst this
      (repeat' (first | ((with_reducible first | apply sg | apply si | apply sq | apply sd) <;> intro hb <;> (try rw [hb]) <;> (try simp only [bq, bz, dtrue, dfalse] at hb) <;> (try simp only [within] at hb) <;> try simp only [go_sem]) | refine And.intro (by first | exact ⟨⟩ | omega | (simp only [I64]; omega)) ?_ | (with_reducible rw [vc_draw_eq]; first | (refine CV.draw (id := 1) sF10x_f57_1 mixed rfl (by kernel_rfl) ?_; delta sF10x_f57_1)) | ((with_reducible first | refine vp h96' ?_ ?_ | refine dc h96' ?_ ?_); focus (first | exact ⟨rfl, .inl ⟨by first | rfl | (simp only [go_sem, hge', List.length_map, AV.pureL, AV.pure]; done), by first | (simp only [go_sem, hge', List.length_map, AV.pureL, AV.pure]; done) | rfl⟩⟩ | exact ⟨rfl, .inr ⟨rfl, by simp only [go_sem, hge', List.length_map]⟩⟩)) | ((with_reducible first | refine dp h96' ?_ ?_); focus (exact ⟨rfl, by first | rfl | (simp only [go_sem, hge', List.length_map, AV.pureL, AV.pure]; done), by first | (simp only [go_sem, hge', List.length_map, AV.pureL, AV.pure]; done) | rfl⟩)) | ((with_reducible first | refine ds h96' ?_ ?_); focus exact ⟨rfl, rfl⟩) | (simp only [go_sem, hge', List.length_map])))
      all_goals omega
end Go.Proofs.YtjlopclpofbgbaaDoor

