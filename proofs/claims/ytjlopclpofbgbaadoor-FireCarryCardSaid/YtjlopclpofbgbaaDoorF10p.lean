/- Contracts of functions of the given program, without a condition beyond those that each theorem states; they lead to the given statement. -/
import Derived.Test.YtjlopclpofbgbaaDoorF10o
set_option linter.unusedSimpArgs false
set_option linter.unusedVariables false
set_option maxRecDepth 100000
namespace Go.Proofs.YtjlopclpofbgbaaDoor
open Go Go.Fl
open Classical
def sF10p_f72_4 : List (Nat × Nat) := [(0, 0), (0, 0), (0, 0), (0, 0), (0, 0), (0, 0), (0, 0), (0, 0), (0, 0), (0, 0), (0, 0)]
def onP (t : Town) (b p : Int) (i : Nat) : Prop := stays t b i ∧ pg t i = p
def frP (t : Town) (b p : Int) (i : Nat) : Prop := onP t b p i ∧ fr t i
def losQ (t : Town) (b : Int) (p : Nat) : Prop := inG t t.ts.length p ∧ sel (onP t b p) t.ts.length = []
def staQ (t : Town) (b : Int) (p : Nat) : Prop := inG t t.ts.length p ∧ sel (onP t b p) t.ts.length ≠ [] ∧ sel (frP t b p) t.ts.length = []
theorem lft_on {t : Town} {b p : Int} : lft t (thg t p) b = sel (onP t b p) t.ts.length := by
  unfold lft thg
  rw [fil_sel]
  exact sel_congr _ fun i _ => ⟨fun h => ⟨h.2, h.1.2⟩, fun h => ⟨⟨h.1.1, h.2⟩, h.1⟩⟩
theorem inG_iff {t : Town} (hk : okThings t.ts) {p : Nat} (hp : p < t.ts.length) : inG t t.ts.length p ↔ pgP t p := by
  constructor
  · rintro ⟨i, h1, h2, h3⟩
    refine ⟨by rw [← h3]; exact pg_page hk (by omega) (by omega), fun h => ?_⟩
    have : (i : Int) ∈ thg t p := thg_mem.2 ⟨by omega, by omega, h2, h3⟩
    rw [h] at this; simp at this
  · rintro ⟨_, h2⟩
    rcases e : thg t p with _ | ⟨x, r⟩
    · exact absurd e h2
    · obtain ⟨y1, y2, y3, y4⟩ := thg_mem.1 (show x ∈ thg t p by rw [e]; simp)
      exact ⟨x.toNat, by omega, by rw [show ((x.toNat : Nat) : Int) = x from by omega]; exact ⟨y3, y4⟩⟩
theorem los_eq {t : Town} (hk : okThings t.ts) {b : Int} : los t b = sel (losQ t b) t.ts.length := by
  unfold los pags
  rw [fil_sel]
  refine sel_congr _ fun i hi => ?_
  unfold losQ losP
  rw [inG_iff hk hi, lft_on]
theorem sta_eq {t : Town} (hk : okThings t.ts) {b : Int} : sta t b = sel (staQ t b) t.ts.length := by
  unfold sta pags
  rw [fil_sel]
  refine sel_congr _ fun i hi => ?_
  unfold staQ staP
  rw [inG_iff hk hi, lft_on]
  have : (¬ ∃ x, x ∈ sel (onP t b i) t.ts.length ∧ fr t x) ↔ sel (frP t b i) t.ts.length = [] := by
    rw [sel_nil]
    constructor
    · intro h c hc hf; exact h ⟨c, (sel_mem _ _).2 ⟨c, hc, rfl, hf.1⟩, hf.2⟩
    · rintro h ⟨x, hx, hf⟩
      obtain ⟨c, hc, rfl, hp⟩ := (sel_mem _ _).1 hx
      exact h c hc ⟨hp, hf⟩
  rw [this]
set_option maxHeartbeats 4000000 in
theorem c72 (t : Town) (b : Int) (hk : okThings t.ts) (h8 : t.ts.length ≤ 8) (hp : t.pl.length = t.ts.length) : PC Tryd.prog 72 [hG t, .int .i64 b] (.tup [lN (los t b), lN (sta t b)]) := by
  have h69 := c69 t b
  have gl : (gs t t.ts.length).length = t.ts.length := gs_len
  rw [los_eq hk, sta_eq hk]
  have hl1 := fun j => sel_len (losQ t b) j
  have hl2 := fun j => sel_len (staQ t b) j
  refine PC.body Tryd.func72 (by kernel_rfl) rfl (by simp [Tryd.f72]) rfl ?_
  simp only [Tryd.f72]
  intro hlen
  simp only [go_sem, List.length_map, and_true, true_and] at hlen
  refine CV.run ?_
  (repeat' (first | ((with_reducible first | apply sg | apply si | apply sq | apply sd) <;> intro hb <;> (try rw [hb]) <;> (try simp only [bq, bz, dtrue, dfalse] at hb) <;> (try simp only [within] at hb) <;> try simp only [go_sem]) | refine And.intro (by first | exact ⟨⟩ | omega | (simp only [I64]; omega)) ?_ | (with_reducible rw [vc_draw_eq]; first | (refine CV.draw (id := 4) sF10p_f72_4 mixed rfl (by kernel_rfl) ?_; delta sF10p_f72_4)) | (simp only [go_sem, gl])))
  refine vc_fw (fun j => ⟨[(18, .int .i64 j), (17, .int .i64 t.ts.length), (1, .int .i64 b), (2, .lp 0 0), (4, .row 1 (sel (losQ t b) j).length), (5, .row 2 (sel (staQ t b) j).length)], [.box 77 [hG t] false, .row 3 1 ((sel (losQ t b) j).map encN) false, .row 3 1 ((sel (staQ t b) j).map encN) false]⟩) t.ts.length (fun _ => True) (.nilE 4 3 1 (by (simp only [go_sem])) (by omega) (.nilE 5 3 1 (by (simp only [go_sem])) (by omega) (.base (by (first | exact wk_same (by simp only [go_sem, Int.natCast_add, cn, Int.cast_ofNat_Int, sel, List.map_nil, gl]) | (refine wk_drop ?_ ?_ ?_ ?_ ?_ <;> simp only [go_sem, Int.natCast_add, cn, Int.cast_ofNat_Int, sel, List.map_nil, gl])))))) trivial ?_
  intro p hpj _
  have hm1 := hl1 p
  have hm2 := hl2 p
  rcases Nat.lt_or_ge p t.ts.length with hlt | hge
  · have hlt' : (p : Int) < t.ts.length := by omega
    have hIp : I64 p = True := eq_true (by simp only [I64]; omega)
    by_cases a1 : inG t t.ts.length p
    · have em : mG t t.ts.length p = some (msk (hsG t t.ts.length p) 3) := if_pos a1
      (repeat' (first | ((with_reducible first | apply sg | apply si | apply sq | apply sd) <;> intro hb <;> (try rw [hb]) <;> (try simp only [bq, bz, dtrue, dfalse] at hb) <;> (try simp only [within] at hb) <;> try simp only [go_sem]) | refine And.intro (by first | exact ⟨⟩ | omega | (simp only [I64]; omega)) ?_ | (with_reducible rw [vc_draw_eq]; first | (refine CV.draw (id := 4) sF10p_f72_4 mixed rfl (by kernel_rfl) ?_; delta sF10p_f72_4)) | ((with_reducible first | refine vp h69 ?_ ?_ | refine dc h69 ?_ ?_); focus (first | exact ⟨rfl, .inl ⟨by first | rfl | (simp only [go_sem, hlt', hIp, em, Option.isSome_some, AV.pureL, AV.pure]; done), by first | (simp only [go_sem, hlt', hIp, em, Option.isSome_some, AV.pureL, AV.pure]; done) | rfl⟩⟩ | exact ⟨rfl, .inr ⟨rfl, by simp only [go_sem, hlt', hIp, em, Option.isSome_some]⟩⟩)) | ((with_reducible first | refine dp h69 ?_ ?_); focus (exact ⟨rfl, by first | rfl | (simp only [go_sem, hlt', hIp, em, Option.isSome_some, AV.pureL, AV.pure]; done), by first | (simp only [go_sem, hlt', hIp, em, Option.isSome_some, AV.pureL, AV.pure]; done) | rfl⟩)) | ((with_reducible first | refine ds h69 ?_ ?_); focus exact ⟨rfl, rfl⟩) | (simp only [go_sem, hlt', hIp, em, Option.isSome_some])))
      rw [vc_range_eq]
      refine CV.wn (st' := ⟨[(34, .fn 102 [.pp [hG t], .pp [.int .i64 b]]), (6, .lp 3 0), (9, .lp 4 0), (10, .lp 5 0), (18, .int .i64 p), (17, .int .i64 t.ts.length), (1, .int .i64 b), (2, .lp 0 0), (4, .row 1 (sel (losQ t b) p).length), (5, .row 2 (sel (staQ t b) p).length)], [.box 77 [hG t] false, .row 3 1 ((sel (losQ t b) p).map encN) false, .row 3 1 ((sel (staQ t b) p).map encN) false, .box 3 [.int .i64 p] false, .box 3 [.int .i64 (sel (onP t b p) 0).length] false, .box 3 [.int .i64 (sel (frP t b p) 0).length] false]⟩) (.base (by (first | exact wk_same (by simp only [go_sem, Int.natCast_add, cn, Int.cast_ofNat_Int, sel, List.length_nil]) | (refine wk_drop ?_ ?_ ?_ ?_ ?_ <;> simp only [go_sem, Int.natCast_add, cn, Int.cast_ofNat_Int, sel, List.length_nil])))) ?_
      refine CV.rangeP rfl (by (simp only [go_sem])) [.box 77 [hG t] false, .row 3 1 ((sel (losQ t b) p).map encN) false, .row 3 1 ((sel (staQ t b) p).map encN) false, .box 3 [.int .i64 p] false, .box 3 [.int .i64 (sel (onP t b p) t.ts.length).length] false, .box 3 [.int .i64 (sel (frP t b p) t.ts.length).length] false] rfl (by (simp only [go_sem])) (by (simp only [go_sem])) (fun l => ?_) ?_
      · refine c102_6 t b h8 hp (fun _ => .box 77 [hG t] false) (fun _ => .row 3 1 ((sel (losQ t b) p).map encN) false) (fun _ => .row 3 1 ((sel (staQ t b) p).map encN) false) (fun _ => .box 3 [.int .i64 p] false) (fun j => .box 3 [.int .i64 (sel (onP t b p) j).length] false) (fun j => .box 3 [.int .i64 (sel (frP t b p) j).length] false) (fun _ => belB rfl) (fun _ => belN) (fun _ => belN) (fun _ => belB rfl) (fun _ => belB rfl) (fun _ => belB rfl) _ _ _ _ _ _ (by (simp only [go_sem])) (fun j hj hs own => ?_) (fun j hj hs => ?_)
        · have hsj := sel_len (onP t b p) j
          have hsf := sel_len (frP t b p) j
          have h88 := c88 t hk h8 j hj
          refine HCY.body2 (H := [.box 77 [hG t] false, .row 3 1 ((sel (losQ t b) p).map encN) false, .row 3 1 ((sel (staQ t b) p).map encN) false, .box 3 [.int .i64 p] false, .box 3 [.int .i64 (sel (onP t b p) j).length] false, .box 3 [.int .i64 (sel (frP t b p) j).length] false]) (H' := [.box 77 [hG t] false, .row 3 1 ((sel (losQ t b) p).map encN) false, .row 3 1 ((sel (staQ t b) p).map encN) false, .box 3 [.int .i64 p] false, .box 3 [.int .i64 (sel (onP t b p) (j + 1)).length] false, .box 3 [.int .i64 (sel (frP t b p) (j + 1)).length] false]) (by omega) (by omega) rfl (by (simp only [go_sem])) (by (simp only [go_sem])) rfl rfl ?_
          by_cases b1 : pg t j = p
          · have e1 := sel_yes (p := onP t b p) (n := j) ⟨hs, b1⟩
            by_cases b2 : fr t j
            · have e2 := sel_yes (p := frP t b p) (n := j) ⟨⟨hs, b1⟩, b2⟩
              replace h88 := h88.tru b2
              (repeat' (first | ((with_reducible first | apply sg | apply si | apply sq | apply sd) <;> intro hb <;> (try rw [hb]) <;> (try simp only [bq, bz, dtrue, dfalse] at hb) <;> (try simp only [within] at hb) <;> try simp only [go_sem]) | refine And.intro (by first | exact ⟨⟩ | omega | (simp only [I64]; omega)) ?_ | (with_reducible rw [vc_draw_eq]; first | (refine CV.draw (id := 4) sF10p_f72_4 mixed rfl (by kernel_rfl) ?_; delta sF10p_f72_4)) | ((with_reducible first | refine vp h88 ?_ ?_ | refine dc h88 ?_ ?_); focus (first | exact ⟨rfl, .inl ⟨by first | rfl | (simp only [go_sem, encG, b1, AV.pureL, AV.pure]; done), by first | (simp only [go_sem, encG, b1, AV.pureL, AV.pure]; done) | rfl⟩⟩ | exact ⟨rfl, .inr ⟨rfl, by simp only [go_sem, encG, b1]⟩⟩)) | ((with_reducible first | refine dp h88 ?_ ?_); focus (exact ⟨rfl, by first | rfl | (simp only [go_sem, encG, b1, AV.pureL, AV.pure]; done), by first | (simp only [go_sem, encG, b1, AV.pureL, AV.pure]; done) | rfl⟩)) | ((with_reducible first | refine ds h88 ?_ ?_); focus exact ⟨rfl, rfl⟩) | (simp only [go_sem, encG, b1])))
              all_goals first
                | omega
                | exact .base (by (first | exact wk_same (by simp only [go_sem, Int.natCast_add, cn, Int.cast_ofNat_Int, e1, e2, List.length_append, List.length_cons, List.length_nil]) | (refine wk_drop ?_ ?_ ?_ ?_ ?_ <;> simp only [go_sem, Int.natCast_add, cn, Int.cast_ofNat_Int, e1, e2, List.length_append, List.length_cons, List.length_nil])))
            · have e2 := sel_no (p := frP t b p) (n := j) fun h => b2 h.2
              replace h88 := h88.fls b2
              (repeat' (first | ((with_reducible first | apply sg | apply si | apply sq | apply sd) <;> intro hb <;> (try rw [hb]) <;> (try simp only [bq, bz, dtrue, dfalse] at hb) <;> (try simp only [within] at hb) <;> try simp only [go_sem]) | refine And.intro (by first | exact ⟨⟩ | omega | (simp only [I64]; omega)) ?_ | (with_reducible rw [vc_draw_eq]; first | (refine CV.draw (id := 4) sF10p_f72_4 mixed rfl (by kernel_rfl) ?_; delta sF10p_f72_4)) | ((with_reducible first | refine vp h88 ?_ ?_ | refine dc h88 ?_ ?_); focus (first | exact ⟨rfl, .inl ⟨by first | rfl | (simp only [go_sem, encG, b1, AV.pureL, AV.pure]; done), by first | (simp only [go_sem, encG, b1, AV.pureL, AV.pure]; done) | rfl⟩⟩ | exact ⟨rfl, .inr ⟨rfl, by simp only [go_sem, encG, b1]⟩⟩)) | ((with_reducible first | refine dp h88 ?_ ?_); focus (exact ⟨rfl, by first | rfl | (simp only [go_sem, encG, b1, AV.pureL, AV.pure]; done), by first | (simp only [go_sem, encG, b1, AV.pureL, AV.pure]; done) | rfl⟩)) | ((with_reducible first | refine ds h88 ?_ ?_); focus exact ⟨rfl, rfl⟩) | (simp only [go_sem, encG, b1])))
              all_goals first
                | omega
                | exact .base (by (first | exact wk_same (by simp only [go_sem, Int.natCast_add, cn, Int.cast_ofNat_Int, e1, e2, List.length_append, List.length_cons, List.length_nil]) | (refine wk_drop ?_ ?_ ?_ ?_ ?_ <;> simp only [go_sem, Int.natCast_add, cn, Int.cast_ofNat_Int, e1, e2, List.length_append, List.length_cons, List.length_nil])))
          · have e1 := sel_no (p := onP t b p) (n := j) fun h => b1 h.2
            have e2 := sel_no (p := frP t b p) (n := j) fun h => b1 h.1.2
            (repeat' (first | ((with_reducible first | apply sg | apply si | apply sq | apply sd) <;> intro hb <;> (try rw [hb]) <;> (try simp only [bq, bz, dtrue, dfalse] at hb) <;> (try simp only [within] at hb) <;> try simp only [go_sem]) | refine And.intro (by first | exact ⟨⟩ | omega | (simp only [I64]; omega)) ?_ | (with_reducible rw [vc_draw_eq]; first | (refine CV.draw (id := 4) sF10p_f72_4 mixed rfl (by kernel_rfl) ?_; delta sF10p_f72_4)) | ((with_reducible first | refine vp h88 ?_ ?_ | refine dc h88 ?_ ?_); focus (first | exact ⟨rfl, .inl ⟨by first | rfl | (simp only [go_sem, encG, b1, AV.pureL, AV.pure]; done), by first | (simp only [go_sem, encG, b1, AV.pureL, AV.pure]; done) | rfl⟩⟩ | exact ⟨rfl, .inr ⟨rfl, by simp only [go_sem, encG, b1]⟩⟩)) | ((with_reducible first | refine dp h88 ?_ ?_); focus (exact ⟨rfl, by first | rfl | (simp only [go_sem, encG, b1, AV.pureL, AV.pure]; done), by first | (simp only [go_sem, encG, b1, AV.pureL, AV.pure]; done) | rfl⟩)) | ((with_reducible first | refine ds h88 ?_ ?_); focus exact ⟨rfl, rfl⟩) | (simp only [go_sem, encG, b1])))
            all_goals first
              | omega
              | exact .base (by (first | exact wk_same (by simp only [go_sem, Int.natCast_add, cn, Int.cast_ofNat_Int, e1, e2]) | (refine wk_drop ?_ ?_ ?_ ?_ ?_ <;> simp only [go_sem, Int.natCast_add, cn, Int.cast_ofNat_Int, e1, e2])))
        · have e1 := sel_no (p := onP t b p) (n := j) fun h => hs h.1
          have e2 := sel_no (p := frP t b p) (n := j) fun h => hs h.1.1
          exact ⟨rfl, rfl, rfl, rfl, by simp only [e1], by simp only [e2]⟩
      · by_cases c1 : sel (onP t b p) t.ts.length = []
        · have e1 := sel_yes (p := losQ t b) (n := p) ⟨a1, c1⟩
          have e2 := sel_no (p := staQ t b) (n := p) fun h => h.2.1 c1
          rw [c1]
          (repeat' (first | ((with_reducible first | apply sg | apply si | apply sq | apply sd) <;> intro hb <;> (try rw [hb]) <;> (try simp only [bq, bz, dtrue, dfalse] at hb) <;> (try simp only [within] at hb) <;> try simp only [go_sem]) | refine And.intro (by first | exact ⟨⟩ | omega | (simp only [I64]; omega)) ?_ | (with_reducible rw [vc_draw_eq]; first | (refine CV.draw (id := 4) sF10p_f72_4 mixed rfl (by kernel_rfl) ?_; delta sF10p_f72_4)) | (simp only [go_sem, hlt', List.length_nil])))
          all_goals first
            | omega
            | exact .base (by (first | exact wk_same (by simp only [go_sem, Int.natCast_add, cn, Int.cast_ofNat_Int, e1, e2, List.map_append, encN, List.length_append, List.length_cons, List.length_nil]) | (refine wk_drop ?_ ?_ ?_ ?_ ?_ <;> simp only [go_sem, Int.natCast_add, cn, Int.cast_ofNat_Int, e1, e2, List.map_append, encN, List.length_append, List.length_cons, List.length_nil])))
        · have e1 := sel_no (p := losQ t b) (n := p) fun h => c1 h.2
          have c1' : ¬ ((sel (onP t b p) t.ts.length).length : Int) = 0 := fun h => c1 (len0'.1 h)
          by_cases c2 : sel (frP t b p) t.ts.length = []
          · have e2 := sel_yes (p := staQ t b) (n := p) ⟨a1, c1, c2⟩
            rw [c2]
            (repeat' (first | ((with_reducible first | apply sg | apply si | apply sq | apply sd) <;> intro hb <;> (try rw [hb]) <;> (try simp only [bq, bz, dtrue, dfalse] at hb) <;> (try simp only [within] at hb) <;> try simp only [go_sem]) | refine And.intro (by first | exact ⟨⟩ | omega | (simp only [I64]; omega)) ?_ | (with_reducible rw [vc_draw_eq]; first | (refine CV.draw (id := 4) sF10p_f72_4 mixed rfl (by kernel_rfl) ?_; delta sF10p_f72_4)) | (simp only [go_sem, hlt', c1', List.length_nil])))
            all_goals first
              | omega
              | exact .base (by (first | exact wk_same (by simp only [go_sem, Int.natCast_add, cn, Int.cast_ofNat_Int, e1, e2, List.map_append, encN, List.length_append, List.length_cons, List.length_nil]) | (refine wk_drop ?_ ?_ ?_ ?_ ?_ <;> simp only [go_sem, Int.natCast_add, cn, Int.cast_ofNat_Int, e1, e2, List.map_append, encN, List.length_append, List.length_cons, List.length_nil])))
          · have e2 := sel_no (p := staQ t b) (n := p) fun h => c2 h.2.2
            have c2' : ¬ ((sel (frP t b p) t.ts.length).length : Int) = 0 := fun h => c2 (len0'.1 h)
            (repeat' (first | ((with_reducible first | apply sg | apply si | apply sq | apply sd) <;> intro hb <;> (try rw [hb]) <;> (try simp only [bq, bz, dtrue, dfalse] at hb) <;> (try simp only [within] at hb) <;> try simp only [go_sem]) | refine And.intro (by first | exact ⟨⟩ | omega | (simp only [I64]; omega)) ?_ | (with_reducible rw [vc_draw_eq]; first | (refine CV.draw (id := 4) sF10p_f72_4 mixed rfl (by kernel_rfl) ?_; delta sF10p_f72_4)) | (simp only [go_sem, hlt', c1', c2', List.length_nil])))
            all_goals first
              | omega
              | exact .base (by (first | exact wk_same (by simp only [go_sem, Int.natCast_add, cn, Int.cast_ofNat_Int, e1, e2]) | (refine wk_drop ?_ ?_ ?_ ?_ ?_ <;> simp only [go_sem, Int.natCast_add, cn, Int.cast_ofNat_Int, e1, e2])))
    · have em : mG t t.ts.length p = none := if_neg a1
      have e1 := sel_no (p := losQ t b) (n := p) fun h => a1 h.1
      have e2 := sel_no (p := staQ t b) (n := p) fun h => a1 h.1
      (repeat' (first | ((with_reducible first | apply sg | apply si | apply sq | apply sd) <;> intro hb <;> (try rw [hb]) <;> (try simp only [bq, bz, dtrue, dfalse] at hb) <;> (try simp only [within] at hb) <;> try simp only [go_sem]) | refine And.intro (by first | exact ⟨⟩ | omega | (simp only [I64]; omega)) ?_ | (with_reducible rw [vc_draw_eq]; first | (refine CV.draw (id := 4) sF10p_f72_4 mixed rfl (by kernel_rfl) ?_; delta sF10p_f72_4)) | (simp only [go_sem, hlt', hIp, em, Option.isSome_none])))
      all_goals first
        | omega
        | exact .base (by (first | exact wk_same (by simp only [go_sem, Int.natCast_add, cn, Int.cast_ofNat_Int, e1, e2]) | (refine wk_drop ?_ ?_ ?_ ?_ ?_ <;> simp only [go_sem, Int.natCast_add, cn, Int.cast_ofNat_Int, e1, e2])))
  · have hge' : ¬ (p : Int) < t.ts.length := by omega
    have : p = t.ts.length := by omega
    subst this
    (repeat' (first | ((with_reducible first | apply sg | apply si | apply sq | apply sd) <;> intro hb <;> (try rw [hb]) <;> (try simp only [bq, bz, dtrue, dfalse] at hb) <;> (try simp only [within] at hb) <;> try simp only [go_sem]) | refine And.intro (by first | exact ⟨⟩ | omega | (simp only [I64]; omega)) ?_ | (with_reducible rw [vc_draw_eq]; first | (refine CV.draw (id := 4) sF10p_f72_4 mixed rfl (by kernel_rfl) ?_; delta sF10p_f72_4)) | (simp only [go_sem, hge'])))
    all_goals first
      | exact frzN
      | exact ⟨frzN, frzN⟩
end Go.Proofs.YtjlopclpofbgbaaDoor

