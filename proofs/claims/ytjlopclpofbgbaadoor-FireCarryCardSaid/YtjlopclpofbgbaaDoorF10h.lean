/- Contracts of functions of the given program, without a condition beyond those that each theorem states; they lead to the given statement. -/
import Derived.Test.YtjlopclpofbgbaaDoorF10g
set_option linter.unusedSimpArgs false
set_option linter.unusedVariables false
set_option maxRecDepth 100000
namespace Go.Fl
theorem PC.tru {P : Program} {g : FuncId} {a : List AV} {p : Prop} {i : Decidable p} (h : PC P g a (.bool (@decide p i))) (hp : p) : PC P g a (.bool true) := by
  rwa [decide_eq_true hp] at h
theorem PC.fls {P : Program} {g : FuncId} {a : List AV} {p : Prop} {i : Decidable p} (h : PC P g a (.bool (@decide p i))) (hp : ¬ p) : PC P g a (.bool false) := by
  rwa [decide_eq_false hp] at h
end Go.Fl
namespace Go.Proofs.YtjlopclpofbgbaaDoor
open Go Go.Fl
open Classical
def sF10h_f94_5 : List (Nat × Nat) := [(0, 0), (0, 0), (0, 0), (0, 0), (0, 0), (0, 0), (0, 0), (0, 0), (0, 0), (0, 0)]
def sF10h_f49_5 : List (Nat × Nat) := [(0, 1), (0, 1), (0, 0), (0, 0), (1, 1), (1, 1)]
def sF10h_f49_8 : List (Nat × Nat) := [(0, 1), (0, 1), (0, 0), (0, 0), (0, 0), (0, 0), (0, 0), (0, 0), (1, 1), (1, 1)]
def sF10h_f49_10 : List (Nat × Nat) := [(0, 1), (0, 1), (0, 0), (0, 0), (1, 1), (1, 1)]
theorem e700 : ((70 : Int) = 0) = False := by simp
theorem e1000 : ((100 : Int) = 0) = False := by simp
theorem e100' : ((1 : Int) = 0) = False := by simp
theorem e300 : ((3 : Int) = 0) = False := by simp
attribute [go_sem] e700 e1000 e100' e300
theorem h105 (l : List Int) (hl : l.length ≤ 1000) : HCH Tryd.prog 105 [lN l] [] fun r H' => r = .row 0 l.length ∧ H' = [.row 3 1 (l.map encN) false] := by
  refine HCH.bodyN Tryd.func105 (by kernel_rfl) rfl (by simp [Tryd.f105]) ?_
  simp only [Tryd.f105]
  refine CV.run ?_
  (repeat' (first | ((with_reducible first | apply sg | apply si | apply sq | apply sd) <;> intro hb <;> (try rw [hb]) <;> (try simp only [bq, bz, dtrue, dfalse] at hb) <;> (try simp only [within] at hb) <;> try simp only [go_sem]) | refine And.intro (by first | exact ⟨⟩ | omega | (simp only [I64]; omega)) ?_ | (simp only [go_sem])))
  · have : l = [] := by simpa using hb
    subst this
    exact ⟨_, .nilE 2 3 1 (by (simp only [go_sem])) (by omega) (.base (wk_same (env' := [(2, .row 0 0)]) (by (simp only [go_sem])))), rfl, rfl⟩
  · exact ⟨⟨by omega, by omega, .inl trivial⟩, _, .base (wk_same (env' := [(2, .row 0 l.length)]) (by (simp only [go_sem]))), rfl, rfl⟩
theorem c105 (l : List Int) (hl : l.length ≤ 1000) : PC Tryd.prog 105 [lN l] (lN l) := by
  refine PC.body Tryd.func105 (by kernel_rfl) rfl (by simp [Tryd.f105]) rfl ?_
  simp only [Tryd.f105]
  intro hlen
  simp only [go_sem, List.length_map, and_true, true_and] at hlen
  refine CV.run ?_
  (repeat' (first | ((with_reducible first | apply sg | apply si | apply sq | apply sd) <;> intro hb <;> (try rw [hb]) <;> (try simp only [bq, bz, dtrue, dfalse] at hb) <;> (try simp only [within] at hb) <;> try simp only [go_sem]) | refine And.intro (by first | exact ⟨⟩ | omega | (simp only [I64]; omega)) ?_ | (simp only [go_sem])))
  all_goals exact .inl trivial
theorem set_map {l : List Int} {j : Nat} {x : Int} : (l.map encN).set j [.int .i64 x] = (l.set j x).map encN := by rw [List.map_set]; rfl
theorem gv_set {l : List Int} {j : Nat} {x : Int} {i : Nat} (hj : j < l.length) : gv (l.set j x) i = if i = j then x else gv l i := by
  simp only [gv, Int.toNat_natCast]
  rw [List.getElem?_set]
  by_cases e : j = i
  · subst e; rw [if_pos rfl, if_pos hj, if_pos rfl]; rfl
  · rw [if_neg e, if_neg fun h => e h.symm]
set_option maxHeartbeats 2000000 in
theorem c94 (t : Town) (pl : List Int) (hl : pl.length ≤ t.ts.length) (hl2 : pl.length ≤ 1000) (hp : ∀ p, p ∈ pl → within p 0 (t.rm.length - 1)) (hr : ∀ r, r ∈ t.rm → within r 0 9) (hrl : t.rm.length ≤ 1000) : PC Tryd.prog 94 [hF t, lN pl] (.bool (decide (roomy t pl))) := by
  have h105 := h105 t.rm hrl
  refine PC.body Tryd.func94 (by kernel_rfl) rfl (by simp [Tryd.f94]) rfl ?_
  simp only [Tryd.f94]
  intro hlen
  simp only [go_sem, List.length_map, and_true, true_and] at hlen
  refine CV.run ?_
  (repeat' (first | ((with_reducible first | apply sg | apply si | apply sq | apply sd) <;> intro hb <;> (try rw [hb]) <;> (try simp only [bq, bz, dtrue, dfalse] at hb) <;> (try simp only [within] at hb) <;> try simp only [go_sem]) | refine And.intro (by first | exact ⟨⟩ | omega | (simp only [I64]; omega)) ?_ | (with_reducible rw [vc_draw_eq]; first | (refine CV.draw (id := 5) sF10h_f94_5 mixed rfl (by kernel_rfl) ?_; delta sF10h_f94_5)) | (simp only [go_sem])))
  refine vcP_new h105 rfl ?_
  (repeat' (first | ((with_reducible first | apply sg | apply si | apply sq | apply sd) <;> intro hb <;> (try rw [hb]) <;> (try simp only [bq, bz, dtrue, dfalse] at hb) <;> (try simp only [within] at hb) <;> try simp only [go_sem]) | refine And.intro (by first | exact ⟨⟩ | omega | (simp only [I64]; omega)) ?_ | (with_reducible rw [vc_draw_eq]; first | (refine CV.draw (id := 5) sF10h_f94_5 mixed rfl (by kernel_rfl) ?_; delta sF10h_f94_5)) | (simp only [go_sem, List.map_cons, List.map_nil, List.cons_append, List.nil_append])))
  refine vc_fx (fun k (l : List Int) => ⟨[(13, .int .i64 k), (12, .int .i64 pl.length), (11, lN pl), (5, .row 1 t.rm.length), (2, .lp 0 0), (4, .bool false)], [.box 28 (cT t) false, .row 3 1 (l.map encN) false]⟩) pl.length (fun k l => l.length = t.rm.length ∧ ∀ b : Nat, b < t.rm.length → gv l b = gv t.rm b - cntP t pl b k) t.rm (.base (by (first | exact wk_same (by simp only [go_sem, Int.natCast_add, cn, Int.cast_ofNat_Int]) | (refine wk_drop ?_ ?_ ?_ ?_ ?_ <;> simp only [go_sem, Int.natCast_add, cn, Int.cast_ofNat_Int])))) ⟨rfl, fun b hb => by simp [cntP]⟩ ?_
  intro k l hk hx
  obtain ⟨x1, x2⟩ := hx
  rcases Nat.lt_or_ge k pl.length with hlt | hge
  · obtain ⟨p, hp1⟩ := get_of hlt
    have hlt' : (k : Int) < pl.length := by omega
    have hpw := hp p (List.mem_of_getElem? hp1)
    unfold within at hpw
    obtain ⟨q, rfl⟩ : ∃ q : Nat, p = q := ⟨p.toNat, by omega⟩
    have ep := gv_nat hp1
    obtain ⟨x, hx1⟩ := get_of (l := t.ts) (j := k) (by omega)
    have hkt : (k : Int) < t.ts.length := by omega
    have hq1 : (q : Int) < t.rm.length := by omega
    obtain ⟨v, hv⟩ := get_of (l := l) (j := q) (by omega)
    have ev := gv_nat hv
    have hx2 := x2 q (by omega)
    have hcl := cntP_le (t := t) (pl := pl) (b := q) k
    obtain ⟨r, hr1⟩ := get_of (l := t.rm) (j := q) (by omega)
    have hr2 := hr r (List.mem_of_getElem? hr1)
    have er := gv_nat hr1
    unfold within at hr2
    have eat : atT t k = x.at_ := atT_of (by simpa using hx1)
    by_cases ht : x.at_ ≤ t.mi
    · (repeat' (first | ((with_reducible first | apply sg | apply si | apply sq | apply sd) <;> intro hb <;> (try rw [hb]) <;> (try simp only [bq, bz, dtrue, dfalse] at hb) <;> (try simp only [within] at hb) <;> try simp only [go_sem]) | refine And.intro (by first | exact ⟨⟩ | omega | (simp only [I64]; omega)) ?_ | (with_reducible rw [vc_draw_eq]; first | (refine CV.draw (id := 5) sF10h_f94_5 mixed rfl (by kernel_rfl) ?_; delta sF10h_f94_5)) | (simp only [go_sem, hlt', hp1, hx1, hkt, hq1, hv, ht, x1, set_map, encT, encN, List.length_map, List.length_set, Int.toNat_natCast])))
      all_goals first
        | omega
        | (refine ⟨l.set q (v - 1), hlt, .base (by (first | exact wk_same (by simp only [go_sem, Int.natCast_add, cn, Int.cast_ofNat_Int]) | (refine wk_drop ?_ ?_ ?_ ?_ ?_ <;> simp only [go_sem, Int.natCast_add, cn, Int.cast_ofNat_Int]))), by simp [x1], fun b hb => ?_⟩
           rw [gv_set (by omega)]
           by_cases e : b = q
           · rw [if_pos e]
             subst e
             rw [cntP_yes (t := t) ⟨ep, by unfold there; rw [eat]; exact ht⟩]
             omega
           · rw [if_neg e, x2 b hb, cntP_no fun h => e (by have := h.1; omega)])
    · (repeat' (first | ((with_reducible first | apply sg | apply si | apply sq | apply sd) <;> intro hb <;> (try rw [hb]) <;> (try simp only [bq, bz, dtrue, dfalse] at hb) <;> (try simp only [within] at hb) <;> try simp only [go_sem]) | refine And.intro (by first | exact ⟨⟩ | omega | (simp only [I64]; omega)) ?_ | (with_reducible rw [vc_draw_eq]; first | (refine CV.draw (id := 5) sF10h_f94_5 mixed rfl (by kernel_rfl) ?_; delta sF10h_f94_5)) | (simp only [go_sem, hlt', hp1, hx1, hkt, hq1, hv, ht, x1, set_map, encT, encN, List.length_map, List.length_set, Int.toNat_natCast])))
      all_goals first
        | omega
        | (refine ⟨l, hlt, .base (by (first | exact wk_same (by simp only [go_sem, Int.natCast_add, cn, Int.cast_ofNat_Int]) | (refine wk_drop ?_ ?_ ?_ ?_ ?_ <;> simp only [go_sem, Int.natCast_add, cn, Int.cast_ofNat_Int]))), x1, fun b hb => ?_⟩
           rw [x2 b hb, cntP_no fun h => ht (by have := h.2; unfold there at this; rw [eat] at this; exact this)])
  · have hge' : ¬ (k : Int) < pl.length := by omega
    have : k = pl.length := by omega
    subst this
    have h93 := c93 l 114 [] rfl rfl (fun m => m < 0) (fun m _ => c114 m)
    (repeat' (first | ((with_reducible first | apply sg | apply si | apply sq | apply sd) <;> intro hb <;> (try rw [hb]) <;> (try simp only [bq, bz, dtrue, dfalse] at hb) <;> (try simp only [within] at hb) <;> try simp only [go_sem]) | refine And.intro (by first | exact ⟨⟩ | omega | (simp only [I64]; omega)) ?_ | (with_reducible rw [vc_draw_eq]; first | (refine CV.draw (id := 5) sF10h_f94_5 mixed rfl (by kernel_rfl) ?_; delta sF10h_f94_5)) | ((with_reducible first | refine vp h93 ?_ ?_ | refine dc h93 ?_ ?_); focus (first | exact ⟨rfl, .inl ⟨by first | rfl | (simp only [go_sem, hge', x1, List.length_map, AV.pureL, AV.pure]; done), by first | (simp only [go_sem, hge', x1, List.length_map, AV.pureL, AV.pure]; done) | rfl⟩⟩ | exact ⟨rfl, .inr ⟨rfl, by simp only [go_sem, hge', x1, List.length_map]⟩⟩)) | ((with_reducible first | refine dp h93 ?_ ?_); focus (exact ⟨rfl, by first | rfl | (simp only [go_sem, hge', x1, List.length_map, AV.pureL, AV.pure]; done), by first | (simp only [go_sem, hge', x1, List.length_map, AV.pureL, AV.pure]; done) | rfl⟩)) | ((with_reducible first | refine ds h93 ?_ ?_); focus exact ⟨rfl, rfl⟩) | (simp only [go_sem, hge', x1, List.length_map])))
    refine bn (q := roomy t pl) ⟨fun h ⟨m, hm, h0⟩ => ?_, fun h b hb => ?_⟩
    · obtain ⟨i, hi⟩ := List.mem_iff_getElem?.1 hm
      have hil := (List.getElem?_eq_some_iff.1 hi).1
      have e1 := gv_nat hi
      have e2 := x2 i (by omega)
      have e3 := h i (by omega)
      omega
    · have e2 := x2 b hb
      obtain ⟨v, hv⟩ := get_of (l := l) (j := b) (by omega)
      have ev := gv_nat hv
      rcases Int.lt_or_le v 0 with q | q
      · exact absurd ⟨v, List.mem_of_getElem? hv, q⟩ h
      · omega
def validT (t : Town) : Prop := valid t.ts t.ms ∧ within t.rm.length 1 3 ∧ (∀ r, r ∈ t.rm → within r 0 9) ∧ t.pl.length = t.ts.length ∧ (∀ p, p ∈ t.pl → within p 0 (t.rm.length - 1)) ∧ t.ca.length = t.ts.length ∧ (∀ c, c ∈ t.ca → within c 0 99) ∧ within t.mi 0 99 ∧ roomy t t.pl
noncomputable def checkT (t : Town) : Int := if validT t then 0 else 100
theorem checkT_yes {t : Town} (h : validT t) : checkT t = 0 := if_pos h
theorem checkT_no {t : Town} (h : ¬ validT t) : checkT t = 100 := if_neg h
theorem check_yes {ts : List Thing} {ms : List Mark} (h : valid ts ms) : check ts ms = 0 := if_pos h
theorem check_no {ts : List Thing} {ms : List Mark} (h : ¬ valid ts ms) : check ts ms = 70 := if_neg h
theorem all_not {l : List Int} {p : Int → Prop} (h : ¬ ∃ m, m ∈ l ∧ ¬ p m) : ∀ m, m ∈ l → p m := fun m hm => Classical.byContradiction fun q => h ⟨m, hm, q⟩
theorem ex_not {l : List Int} {p : Int → Prop} (h : ¬ ∀ m, m ∈ l → p m) : ∃ m, m ∈ l ∧ ¬ p m := Classical.byContradiction fun q => h (all_not q)
set_option maxHeartbeats 4000000 in
theorem c49 (t : Town) : PC Tryd.prog 49 [hF t] (.int .i64 (checkT t)) := by
  have h92 := c92 t.ts t.ms
  have hw1 := c91 t.rm.length 1 3
  have h93r := c93 t.rm 90 [.pp [.int .i64 0], .pp [.int .i64 9]] rfl rfl (fun m => ¬ within m 0 9) (fun m _ => c90 m 0 9)
  have h93p := c93 t.pl 90 [.pp [.int .i64 0], .pp [.int .i64 (t.rm.length - 1)]] rfl rfl (fun m => ¬ within m 0 (t.rm.length - 1)) (fun m _ => c90 m 0 _)
  have h93c := c93 t.ca 90 [.pp [.int .i64 0], .pp [.int .i64 99]] rfl rfl (fun m => ¬ within m 0 99) (fun m _ => c90 m 0 99)
  have hw2 := c91 t.mi 0 99
  by_cases a1 : valid t.ts t.ms
  case neg =>
    rw [check_no a1] at h92
    rw [checkT_no fun h => a1 h.1]
    refine PC.body Tryd.func49 (by kernel_rfl) rfl (by simp [Tryd.f49]) rfl ?_
    simp only [Tryd.f49]
    intro hlen
    simp only [go_sem, List.length_map, and_true, true_and] at hlen
    refine CV.run ?_
    (repeat' (first | ((with_reducible first | apply sg | apply si | apply sq | apply sd) <;> intro hb <;> (try rw [hb]) <;> (try simp only [bq, bz, dtrue, dfalse] at hb) <;> (try simp only [within] at hb) <;> try simp only [go_sem]) | refine And.intro (by first | exact ⟨⟩ | omega | (simp only [I64]; omega)) ?_ | (with_reducible rw [vc_draw_eq]; first | (refine CV.draw (id := 5) sF10h_f49_5 mixed rfl (by kernel_rfl) ?_; delta sF10h_f49_5) | (refine CV.draw (id := 8) sF10h_f49_8 mixed rfl (by kernel_rfl) ?_; delta sF10h_f49_8) | (refine CV.draw (id := 10) sF10h_f49_10 mixed rfl (by kernel_rfl) ?_; delta sF10h_f49_10)) | ((with_reducible first | refine vp h92 ?_ ?_ | refine dc h92 ?_ ?_); focus (first | exact ⟨rfl, .inl ⟨by first | rfl | (simp only [go_sem, AV.pureL, AV.pure]; done), by first | (simp only [go_sem, AV.pureL, AV.pure]; done) | rfl⟩⟩ | exact ⟨rfl, .inr ⟨rfl, by simp only [go_sem]⟩⟩)) | ((with_reducible first | refine dp h92 ?_ ?_); focus (exact ⟨rfl, by first | rfl | (simp only [go_sem, AV.pureL, AV.pure]; done), by first | (simp only [go_sem, AV.pureL, AV.pure]; done) | rfl⟩)) | ((with_reducible first | refine ds h92 ?_ ?_); focus exact ⟨rfl, rfl⟩) | (simp only [go_sem])))
  rw [check_yes a1] at h92
  by_cases a2 : within t.rm.length 1 3
  case neg =>
    rw [decide_eq_false a2] at hw1
    rw [checkT_no fun h => a2 h.2.1]
    refine PC.body Tryd.func49 (by kernel_rfl) rfl (by simp [Tryd.f49]) rfl ?_
    simp only [Tryd.f49]
    intro hlen
    simp only [go_sem, List.length_map, and_true, true_and] at hlen
    refine CV.run ?_
    (repeat' (first | ((with_reducible first | apply sg | apply si | apply sq | apply sd) <;> intro hb <;> (try rw [hb]) <;> (try simp only [bq, bz, dtrue, dfalse] at hb) <;> (try simp only [within] at hb) <;> try simp only [go_sem]) | refine And.intro (by first | exact ⟨⟩ | omega | (simp only [I64]; omega)) ?_ | (with_reducible rw [vc_draw_eq]; first | (refine CV.draw (id := 5) sF10h_f49_5 mixed rfl (by kernel_rfl) ?_; delta sF10h_f49_5) | (refine CV.draw (id := 8) sF10h_f49_8 mixed rfl (by kernel_rfl) ?_; delta sF10h_f49_8) | (refine CV.draw (id := 10) sF10h_f49_10 mixed rfl (by kernel_rfl) ?_; delta sF10h_f49_10)) | ((with_reducible first | refine vp h92 ?_ ?_ | refine dc h92 ?_ ?_ | refine vp hw1 ?_ ?_ | refine dc hw1 ?_ ?_); focus (first | exact ⟨rfl, .inl ⟨by first | rfl | (simp only [go_sem, List.length_map, AV.pureL, AV.pure]; done), by first | (simp only [go_sem, List.length_map, AV.pureL, AV.pure]; done) | rfl⟩⟩ | exact ⟨rfl, .inr ⟨rfl, by simp only [go_sem, List.length_map]⟩⟩)) | ((with_reducible first | refine dp h92 ?_ ?_ | refine dp hw1 ?_ ?_); focus (exact ⟨rfl, by first | rfl | (simp only [go_sem, List.length_map, AV.pureL, AV.pure]; done), by first | (simp only [go_sem, List.length_map, AV.pureL, AV.pure]; done) | rfl⟩)) | ((with_reducible first | refine ds h92 ?_ ?_ | refine ds hw1 ?_ ?_); focus exact ⟨rfl, rfl⟩) | (simp only [go_sem, List.length_map])))
  rw [decide_eq_true a2] at hw1
  by_cases a3 : ∀ r, r ∈ t.rm → within r 0 9
  case neg =>
    replace h93r := h93r.tru (ex_not a3)
    rw [checkT_no fun h => a3 h.2.2.1]
    refine PC.body Tryd.func49 (by kernel_rfl) rfl (by simp [Tryd.f49]) rfl ?_
    simp only [Tryd.f49]
    intro hlen
    simp only [go_sem, List.length_map, and_true, true_and] at hlen
    refine CV.run ?_
    (repeat' (first | ((with_reducible first | apply sg | apply si | apply sq | apply sd) <;> intro hb <;> (try rw [hb]) <;> (try simp only [bq, bz, dtrue, dfalse] at hb) <;> (try simp only [within] at hb) <;> try simp only [go_sem]) | refine And.intro (by first | exact ⟨⟩ | omega | (simp only [I64]; omega)) ?_ | (with_reducible rw [vc_draw_eq]; first | (refine CV.draw (id := 5) sF10h_f49_5 mixed rfl (by kernel_rfl) ?_; delta sF10h_f49_5) | (refine CV.draw (id := 8) sF10h_f49_8 mixed rfl (by kernel_rfl) ?_; delta sF10h_f49_8) | (refine CV.draw (id := 10) sF10h_f49_10 mixed rfl (by kernel_rfl) ?_; delta sF10h_f49_10)) | ((with_reducible first | refine vp h92 ?_ ?_ | refine dc h92 ?_ ?_ | refine vp hw1 ?_ ?_ | refine dc hw1 ?_ ?_ | refine vp (c89 _ _) ?_ ?_ | refine dc (c89 _ _) ?_ ?_ | refine vp h93r ?_ ?_ | refine dc h93r ?_ ?_); focus (first | exact ⟨rfl, .inl ⟨by first | rfl | (simp only [go_sem, List.length_map, AV.pureL, AV.pure]; done), by first | (simp only [go_sem, List.length_map, AV.pureL, AV.pure]; done) | rfl⟩⟩ | exact ⟨rfl, .inr ⟨rfl, by simp only [go_sem, List.length_map]⟩⟩)) | ((with_reducible first | refine dp h92 ?_ ?_ | refine dp hw1 ?_ ?_ | refine dp (c89 _ _) ?_ ?_ | refine dp h93r ?_ ?_); focus (exact ⟨rfl, by first | rfl | (simp only [go_sem, List.length_map, AV.pureL, AV.pure]; done), by first | (simp only [go_sem, List.length_map, AV.pureL, AV.pure]; done) | rfl⟩)) | ((with_reducible first | refine ds h92 ?_ ?_ | refine ds hw1 ?_ ?_ | refine ds (c89 _ _) ?_ ?_ | refine ds h93r ?_ ?_); focus exact ⟨rfl, rfl⟩) | (simp only [go_sem, List.length_map])))
  replace h93r := h93r.fls fun ⟨m, h1, h2⟩ => h2 (a3 m h1)
  by_cases a4 : t.pl.length = t.ts.length
  case neg =>
    have a4' : ¬ (t.pl.length : Int) = t.ts.length := by omega
    rw [checkT_no fun h => a4 h.2.2.2.1]
    refine PC.body Tryd.func49 (by kernel_rfl) rfl (by simp [Tryd.f49]) rfl ?_
    simp only [Tryd.f49]
    intro hlen
    simp only [go_sem, List.length_map, and_true, true_and] at hlen
    refine CV.run ?_
    (repeat' (first | ((with_reducible first | apply sg | apply si | apply sq | apply sd) <;> intro hb <;> (try rw [hb]) <;> (try simp only [bq, bz, dtrue, dfalse] at hb) <;> (try simp only [within] at hb) <;> try simp only [go_sem]) | refine And.intro (by first | exact ⟨⟩ | omega | (simp only [I64]; omega)) ?_ | (with_reducible rw [vc_draw_eq]; first | (refine CV.draw (id := 5) sF10h_f49_5 mixed rfl (by kernel_rfl) ?_; delta sF10h_f49_5) | (refine CV.draw (id := 8) sF10h_f49_8 mixed rfl (by kernel_rfl) ?_; delta sF10h_f49_8) | (refine CV.draw (id := 10) sF10h_f49_10 mixed rfl (by kernel_rfl) ?_; delta sF10h_f49_10)) | ((with_reducible first | refine vp h92 ?_ ?_ | refine dc h92 ?_ ?_ | refine vp hw1 ?_ ?_ | refine dc hw1 ?_ ?_ | refine vp (c89 _ _) ?_ ?_ | refine dc (c89 _ _) ?_ ?_ | refine vp h93r ?_ ?_ | refine dc h93r ?_ ?_); focus (first | exact ⟨rfl, .inl ⟨by first | rfl | (simp only [go_sem, List.length_map, a4', AV.pureL, AV.pure]; done), by first | (simp only [go_sem, List.length_map, a4', AV.pureL, AV.pure]; done) | rfl⟩⟩ | exact ⟨rfl, .inr ⟨rfl, by simp only [go_sem, List.length_map, a4']⟩⟩)) | ((with_reducible first | refine dp h92 ?_ ?_ | refine dp hw1 ?_ ?_ | refine dp (c89 _ _) ?_ ?_ | refine dp h93r ?_ ?_); focus (exact ⟨rfl, by first | rfl | (simp only [go_sem, List.length_map, a4', AV.pureL, AV.pure]; done), by first | (simp only [go_sem, List.length_map, a4', AV.pureL, AV.pure]; done) | rfl⟩)) | ((with_reducible first | refine ds h92 ?_ ?_ | refine ds hw1 ?_ ?_ | refine ds (c89 _ _) ?_ ?_ | refine ds h93r ?_ ?_); focus exact ⟨rfl, rfl⟩) | (simp only [go_sem, List.length_map, a4'])))
  have a4' : (t.pl.length : Int) = t.ts.length := by omega
  have a4k : ((t.ts.length : Int) = t.ts.length) = True := eq_self _
  unfold within at a2
  by_cases a5 : ∀ p, p ∈ t.pl → within p 0 (t.rm.length - 1)
  case neg =>
    replace h93p := h93p.tru (ex_not a5)
    rw [checkT_no fun h => a5 h.2.2.2.2.1]
    refine PC.body Tryd.func49 (by kernel_rfl) rfl (by simp [Tryd.f49]) rfl ?_
    simp only [Tryd.f49]
    intro hlen
    simp only [go_sem, List.length_map, and_true, true_and] at hlen
    refine CV.run ?_
    (repeat' (first | ((with_reducible first | apply sg | apply si | apply sq | apply sd) <;> intro hb <;> (try rw [hb]) <;> (try simp only [bq, bz, dtrue, dfalse] at hb) <;> (try simp only [within] at hb) <;> try simp only [go_sem]) | refine And.intro (by first | exact ⟨⟩ | omega | (simp only [I64]; omega)) ?_ | (with_reducible rw [vc_draw_eq]; first | (refine CV.draw (id := 5) sF10h_f49_5 mixed rfl (by kernel_rfl) ?_; delta sF10h_f49_5) | (refine CV.draw (id := 8) sF10h_f49_8 mixed rfl (by kernel_rfl) ?_; delta sF10h_f49_8) | (refine CV.draw (id := 10) sF10h_f49_10 mixed rfl (by kernel_rfl) ?_; delta sF10h_f49_10)) | ((with_reducible first | refine vp h92 ?_ ?_ | refine dc h92 ?_ ?_ | refine vp hw1 ?_ ?_ | refine dc hw1 ?_ ?_ | refine vp (c89 _ _) ?_ ?_ | refine dc (c89 _ _) ?_ ?_ | refine vp h93r ?_ ?_ | refine dc h93r ?_ ?_ | refine vp h93p ?_ ?_ | refine dc h93p ?_ ?_); focus (first | exact ⟨rfl, .inl ⟨by first | rfl | (simp only [go_sem, List.length_map, a4', AV.pureL, AV.pure]; done), by first | (simp only [go_sem, List.length_map, a4', AV.pureL, AV.pure]; done) | rfl⟩⟩ | exact ⟨rfl, .inr ⟨rfl, by simp only [go_sem, List.length_map, a4']⟩⟩)) | ((with_reducible first | refine dp h92 ?_ ?_ | refine dp hw1 ?_ ?_ | refine dp (c89 _ _) ?_ ?_ | refine dp h93r ?_ ?_ | refine dp h93p ?_ ?_); focus (exact ⟨rfl, by first | rfl | (simp only [go_sem, List.length_map, a4', AV.pureL, AV.pure]; done), by first | (simp only [go_sem, List.length_map, a4', AV.pureL, AV.pure]; done) | rfl⟩)) | ((with_reducible first | refine ds h92 ?_ ?_ | refine ds hw1 ?_ ?_ | refine ds (c89 _ _) ?_ ?_ | refine ds h93r ?_ ?_ | refine ds h93p ?_ ?_); focus exact ⟨rfl, rfl⟩) | (simp only [go_sem, List.length_map, a4'])))
    all_goals omega
  replace h93p := h93p.fls fun ⟨m, h1, h2⟩ => h2 (a5 m h1)
  by_cases a6 : t.ca.length = t.ts.length
  case neg =>
    have a6' : ¬ (t.ca.length : Int) = t.ts.length := by omega
    rw [checkT_no fun h => a6 h.2.2.2.2.2.1]
    refine PC.body Tryd.func49 (by kernel_rfl) rfl (by simp [Tryd.f49]) rfl ?_
    simp only [Tryd.f49]
    intro hlen
    simp only [go_sem, List.length_map, and_true, true_and] at hlen
    refine CV.run ?_
    (repeat' (first | ((with_reducible first | apply sg | apply si | apply sq | apply sd) <;> intro hb <;> (try rw [hb]) <;> (try simp only [bq, bz, dtrue, dfalse] at hb) <;> (try simp only [within] at hb) <;> try simp only [go_sem]) | refine And.intro (by first | exact ⟨⟩ | omega | (simp only [I64]; omega)) ?_ | (with_reducible rw [vc_draw_eq]; first | (refine CV.draw (id := 5) sF10h_f49_5 mixed rfl (by kernel_rfl) ?_; delta sF10h_f49_5) | (refine CV.draw (id := 8) sF10h_f49_8 mixed rfl (by kernel_rfl) ?_; delta sF10h_f49_8) | (refine CV.draw (id := 10) sF10h_f49_10 mixed rfl (by kernel_rfl) ?_; delta sF10h_f49_10)) | ((with_reducible first | refine vp h92 ?_ ?_ | refine dc h92 ?_ ?_ | refine vp hw1 ?_ ?_ | refine dc hw1 ?_ ?_ | refine vp (c89 _ _) ?_ ?_ | refine dc (c89 _ _) ?_ ?_ | refine vp h93r ?_ ?_ | refine dc h93r ?_ ?_ | refine vp h93p ?_ ?_ | refine dc h93p ?_ ?_); focus (first | exact ⟨rfl, .inl ⟨by first | rfl | (simp only [go_sem, List.length_map, a4', a6', AV.pureL, AV.pure]; done), by first | (simp only [go_sem, List.length_map, a4', a6', AV.pureL, AV.pure]; done) | rfl⟩⟩ | exact ⟨rfl, .inr ⟨rfl, by simp only [go_sem, List.length_map, a4', a6']⟩⟩)) | ((with_reducible first | refine dp h92 ?_ ?_ | refine dp hw1 ?_ ?_ | refine dp (c89 _ _) ?_ ?_ | refine dp h93r ?_ ?_ | refine dp h93p ?_ ?_); focus (exact ⟨rfl, by first | rfl | (simp only [go_sem, List.length_map, a4', a6', AV.pureL, AV.pure]; done), by first | (simp only [go_sem, List.length_map, a4', a6', AV.pureL, AV.pure]; done) | rfl⟩)) | ((with_reducible first | refine ds h92 ?_ ?_ | refine ds hw1 ?_ ?_ | refine ds (c89 _ _) ?_ ?_ | refine ds h93r ?_ ?_ | refine ds h93p ?_ ?_); focus exact ⟨rfl, rfl⟩) | (simp only [go_sem, List.length_map, a4', a6'])))
    all_goals omega
  have a6' : (t.ca.length : Int) = t.ts.length := by omega
  by_cases a7 : ∀ c, c ∈ t.ca → within c 0 99
  case neg =>
    replace h93c := h93c.tru (ex_not a7)
    rw [checkT_no fun h => a7 h.2.2.2.2.2.2.1]
    refine PC.body Tryd.func49 (by kernel_rfl) rfl (by simp [Tryd.f49]) rfl ?_
    simp only [Tryd.f49]
    intro hlen
    simp only [go_sem, List.length_map, and_true, true_and] at hlen
    refine CV.run ?_
    (repeat' (first | ((with_reducible first | apply sg | apply si | apply sq | apply sd) <;> intro hb <;> (try rw [hb]) <;> (try simp only [bq, bz, dtrue, dfalse] at hb) <;> (try simp only [within] at hb) <;> try simp only [go_sem]) | refine And.intro (by first | exact ⟨⟩ | omega | (simp only [I64]; omega)) ?_ | (with_reducible rw [vc_draw_eq]; first | (refine CV.draw (id := 5) sF10h_f49_5 mixed rfl (by kernel_rfl) ?_; delta sF10h_f49_5) | (refine CV.draw (id := 8) sF10h_f49_8 mixed rfl (by kernel_rfl) ?_; delta sF10h_f49_8) | (refine CV.draw (id := 10) sF10h_f49_10 mixed rfl (by kernel_rfl) ?_; delta sF10h_f49_10)) | ((with_reducible first | refine vp h92 ?_ ?_ | refine dc h92 ?_ ?_ | refine vp hw1 ?_ ?_ | refine dc hw1 ?_ ?_ | refine vp (c89 _ _) ?_ ?_ | refine dc (c89 _ _) ?_ ?_ | refine vp h93r ?_ ?_ | refine dc h93r ?_ ?_ | refine vp h93p ?_ ?_ | refine dc h93p ?_ ?_ | refine vp h93c ?_ ?_ | refine dc h93c ?_ ?_); focus (first | exact ⟨rfl, .inl ⟨by first | rfl | (simp only [go_sem, List.length_map, a4', a6', AV.pureL, AV.pure]; done), by first | (simp only [go_sem, List.length_map, a4', a6', AV.pureL, AV.pure]; done) | rfl⟩⟩ | exact ⟨rfl, .inr ⟨rfl, by simp only [go_sem, List.length_map, a4', a6']⟩⟩)) | ((with_reducible first | refine dp h92 ?_ ?_ | refine dp hw1 ?_ ?_ | refine dp (c89 _ _) ?_ ?_ | refine dp h93r ?_ ?_ | refine dp h93p ?_ ?_ | refine dp h93c ?_ ?_); focus (exact ⟨rfl, by first | rfl | (simp only [go_sem, List.length_map, a4', a6', AV.pureL, AV.pure]; done), by first | (simp only [go_sem, List.length_map, a4', a6', AV.pureL, AV.pure]; done) | rfl⟩)) | ((with_reducible first | refine ds h92 ?_ ?_ | refine ds hw1 ?_ ?_ | refine ds (c89 _ _) ?_ ?_ | refine ds h93r ?_ ?_ | refine ds h93p ?_ ?_ | refine ds h93c ?_ ?_); focus exact ⟨rfl, rfl⟩) | (simp only [go_sem, List.length_map, a4', a6'])))
    all_goals omega
  replace h93c := h93c.fls fun ⟨m, h1, h2⟩ => h2 (a7 m h1)
  by_cases a8 : within t.mi 0 99
  case neg =>
    rw [decide_eq_false a8] at hw2
    rw [checkT_no fun h => a8 h.2.2.2.2.2.2.2.1]
    refine PC.body Tryd.func49 (by kernel_rfl) rfl (by simp [Tryd.f49]) rfl ?_
    simp only [Tryd.f49]
    intro hlen
    simp only [go_sem, List.length_map, and_true, true_and] at hlen
    refine CV.run ?_
    (repeat' (first | ((with_reducible first | apply sg | apply si | apply sq | apply sd) <;> intro hb <;> (try rw [hb]) <;> (try simp only [bq, bz, dtrue, dfalse] at hb) <;> (try simp only [within] at hb) <;> try simp only [go_sem]) | refine And.intro (by first | exact ⟨⟩ | omega | (simp only [I64]; omega)) ?_ | (with_reducible rw [vc_draw_eq]; first | (refine CV.draw (id := 5) sF10h_f49_5 mixed rfl (by kernel_rfl) ?_; delta sF10h_f49_5) | (refine CV.draw (id := 8) sF10h_f49_8 mixed rfl (by kernel_rfl) ?_; delta sF10h_f49_8) | (refine CV.draw (id := 10) sF10h_f49_10 mixed rfl (by kernel_rfl) ?_; delta sF10h_f49_10)) | ((with_reducible first | refine vp h92 ?_ ?_ | refine dc h92 ?_ ?_ | refine vp hw1 ?_ ?_ | refine dc hw1 ?_ ?_ | refine vp (c89 _ _) ?_ ?_ | refine dc (c89 _ _) ?_ ?_ | refine vp h93r ?_ ?_ | refine dc h93r ?_ ?_ | refine vp h93p ?_ ?_ | refine dc h93p ?_ ?_ | refine vp h93c ?_ ?_ | refine dc h93c ?_ ?_ | refine vp hw2 ?_ ?_ | refine dc hw2 ?_ ?_); focus (first | exact ⟨rfl, .inl ⟨by first | rfl | (simp only [go_sem, List.length_map, a4', a6', AV.pureL, AV.pure]; done), by first | (simp only [go_sem, List.length_map, a4', a6', AV.pureL, AV.pure]; done) | rfl⟩⟩ | exact ⟨rfl, .inr ⟨rfl, by simp only [go_sem, List.length_map, a4', a6']⟩⟩)) | ((with_reducible first | refine dp h92 ?_ ?_ | refine dp hw1 ?_ ?_ | refine dp (c89 _ _) ?_ ?_ | refine dp h93r ?_ ?_ | refine dp h93p ?_ ?_ | refine dp h93c ?_ ?_ | refine dp hw2 ?_ ?_); focus (exact ⟨rfl, by first | rfl | (simp only [go_sem, List.length_map, a4', a6', AV.pureL, AV.pure]; done), by first | (simp only [go_sem, List.length_map, a4', a6', AV.pureL, AV.pure]; done) | rfl⟩)) | ((with_reducible first | refine ds h92 ?_ ?_ | refine ds hw1 ?_ ?_ | refine ds (c89 _ _) ?_ ?_ | refine ds h93r ?_ ?_ | refine ds h93p ?_ ?_ | refine ds h93c ?_ ?_ | refine ds hw2 ?_ ?_); focus exact ⟨rfl, rfl⟩) | (simp only [go_sem, List.length_map, a4', a6'])))
    all_goals omega
  rw [decide_eq_true a8] at hw2
  have h8 := a1.1
  have h94 := c94 t t.pl (by omega) (by omega) a5 a3 (by omega)
  by_cases a9 : roomy t t.pl
  · rw [decide_eq_true a9] at h94
    rw [checkT_yes ⟨a1, a2, a3, a4, a5, a6, a7, a8, a9⟩]
    refine PC.body Tryd.func49 (by kernel_rfl) rfl (by simp [Tryd.f49]) rfl ?_
    simp only [Tryd.f49]
    intro hlen
    simp only [go_sem, List.length_map, and_true, true_and] at hlen
    refine CV.run ?_
    (repeat' (first | ((with_reducible first | apply sg | apply si | apply sq | apply sd) <;> intro hb <;> (try rw [hb]) <;> (try simp only [bq, bz, dtrue, dfalse] at hb) <;> (try simp only [within] at hb) <;> try simp only [go_sem]) | refine And.intro (by first | exact ⟨⟩ | omega | (simp only [I64]; omega)) ?_ | (with_reducible rw [vc_draw_eq]; first | (refine CV.draw (id := 5) sF10h_f49_5 mixed rfl (by kernel_rfl) ?_; delta sF10h_f49_5) | (refine CV.draw (id := 8) sF10h_f49_8 mixed rfl (by kernel_rfl) ?_; delta sF10h_f49_8) | (refine CV.draw (id := 10) sF10h_f49_10 mixed rfl (by kernel_rfl) ?_; delta sF10h_f49_10)) | ((with_reducible first | refine vp h92 ?_ ?_ | refine dc h92 ?_ ?_ | refine vp hw1 ?_ ?_ | refine dc hw1 ?_ ?_ | refine vp (c89 _ _) ?_ ?_ | refine dc (c89 _ _) ?_ ?_ | refine vp h93r ?_ ?_ | refine dc h93r ?_ ?_ | refine vp h93p ?_ ?_ | refine dc h93p ?_ ?_ | refine vp h93c ?_ ?_ | refine dc h93c ?_ ?_ | refine vp hw2 ?_ ?_ | refine dc hw2 ?_ ?_ | refine vp h94 ?_ ?_ | refine dc h94 ?_ ?_); focus (first | exact ⟨rfl, .inl ⟨by first | rfl | (simp only [go_sem, List.length_map, a4', a6', AV.pureL, AV.pure]; done), by first | (simp only [go_sem, List.length_map, a4', a6', AV.pureL, AV.pure]; done) | rfl⟩⟩ | exact ⟨rfl, .inr ⟨rfl, by simp only [go_sem, List.length_map, a4', a6']⟩⟩)) | ((with_reducible first | refine dp h92 ?_ ?_ | refine dp hw1 ?_ ?_ | refine dp (c89 _ _) ?_ ?_ | refine dp h93r ?_ ?_ | refine dp h93p ?_ ?_ | refine dp h93c ?_ ?_ | refine dp hw2 ?_ ?_ | refine dp h94 ?_ ?_); focus (exact ⟨rfl, by first | rfl | (simp only [go_sem, List.length_map, a4', a6', AV.pureL, AV.pure]; done), by first | (simp only [go_sem, List.length_map, a4', a6', AV.pureL, AV.pure]; done) | rfl⟩)) | ((with_reducible first | refine ds h92 ?_ ?_ | refine ds hw1 ?_ ?_ | refine ds (c89 _ _) ?_ ?_ | refine ds h93r ?_ ?_ | refine ds h93p ?_ ?_ | refine ds h93c ?_ ?_ | refine ds hw2 ?_ ?_ | refine ds h94 ?_ ?_); focus exact ⟨rfl, rfl⟩) | (simp only [go_sem, List.length_map, a4', a6'])))
    all_goals omega
  · rw [decide_eq_false a9] at h94
    rw [checkT_no fun h => a9 h.2.2.2.2.2.2.2.2]
    refine PC.body Tryd.func49 (by kernel_rfl) rfl (by simp [Tryd.f49]) rfl ?_
    simp only [Tryd.f49]
    intro hlen
    simp only [go_sem, List.length_map, and_true, true_and] at hlen
    refine CV.run ?_
    (repeat' (first | ((with_reducible first | apply sg | apply si | apply sq | apply sd) <;> intro hb <;> (try rw [hb]) <;> (try simp only [bq, bz, dtrue, dfalse] at hb) <;> (try simp only [within] at hb) <;> try simp only [go_sem]) | refine And.intro (by first | exact ⟨⟩ | omega | (simp only [I64]; omega)) ?_ | (with_reducible rw [vc_draw_eq]; first | (refine CV.draw (id := 5) sF10h_f49_5 mixed rfl (by kernel_rfl) ?_; delta sF10h_f49_5) | (refine CV.draw (id := 8) sF10h_f49_8 mixed rfl (by kernel_rfl) ?_; delta sF10h_f49_8) | (refine CV.draw (id := 10) sF10h_f49_10 mixed rfl (by kernel_rfl) ?_; delta sF10h_f49_10)) | ((with_reducible first | refine vp h92 ?_ ?_ | refine dc h92 ?_ ?_ | refine vp hw1 ?_ ?_ | refine dc hw1 ?_ ?_ | refine vp (c89 _ _) ?_ ?_ | refine dc (c89 _ _) ?_ ?_ | refine vp h93r ?_ ?_ | refine dc h93r ?_ ?_ | refine vp h93p ?_ ?_ | refine dc h93p ?_ ?_ | refine vp h93c ?_ ?_ | refine dc h93c ?_ ?_ | refine vp hw2 ?_ ?_ | refine dc hw2 ?_ ?_ | refine vp h94 ?_ ?_ | refine dc h94 ?_ ?_); focus (first | exact ⟨rfl, .inl ⟨by first | rfl | (simp only [go_sem, List.length_map, a4', a6', AV.pureL, AV.pure]; done), by first | (simp only [go_sem, List.length_map, a4', a6', AV.pureL, AV.pure]; done) | rfl⟩⟩ | exact ⟨rfl, .inr ⟨rfl, by simp only [go_sem, List.length_map, a4', a6']⟩⟩)) | ((with_reducible first | refine dp h92 ?_ ?_ | refine dp hw1 ?_ ?_ | refine dp (c89 _ _) ?_ ?_ | refine dp h93r ?_ ?_ | refine dp h93p ?_ ?_ | refine dp h93c ?_ ?_ | refine dp hw2 ?_ ?_ | refine dp h94 ?_ ?_); focus (exact ⟨rfl, by first | rfl | (simp only [go_sem, List.length_map, a4', a6', AV.pureL, AV.pure]; done), by first | (simp only [go_sem, List.length_map, a4', a6', AV.pureL, AV.pure]; done) | rfl⟩)) | ((with_reducible first | refine ds h92 ?_ ?_ | refine ds hw1 ?_ ?_ | refine ds (c89 _ _) ?_ ?_ | refine ds h93r ?_ ?_ | refine ds h93p ?_ ?_ | refine ds h93c ?_ ?_ | refine ds hw2 ?_ ?_ | refine ds h94 ?_ ?_); focus exact ⟨rfl, rfl⟩) | (simp only [go_sem, List.length_map, a4', a6'])))
    all_goals omega
end Go.Proofs.YtjlopclpofbgbaaDoor

