/- Contracts of functions of the given program, without a condition beyond those that each theorem states; they lead to the given statement. -/
import Derived.Test.YtjlopclpofbgbaaDoorF13a
import Derived.Test.YtjlopclpofbgbaaDoorF13h
import Derived.Test.YtjlopclpofbgbaaDoorF12b
import Derived.Test.YtjlopclpofbgbaaDoorFlB
set_option linter.unusedSimpArgs false
set_option linter.unusedVariables false
set_option maxRecDepth 100000
namespace Go.Proofs.YtjlopclpofbgbaaDoor
open Go Go.Fl
open Classical
def sF13g_f13_8 : List (Nat × Nat) := [(0, 0), (0, 0), (0, 0), (0, 0), (0, 0), (0, 0), (0, 0), (0, 0), (0, 0), (0, 0), (0, 0), (0, 0), (0, 0), (0, 0)]
def sF13g_f13_12 : List (Nat × Nat) := [(0, 0), (0, 0), (0, 0), (0, 0), (0, 0), (0, 0), (0, 0), (0, 0), (0, 0), (0, 0), (0, 0), (0, 0), (0, 0), (0, 0)]
theorem ord_mk {t o : Town} (hv : validT t) {f : Nat} (hs : Hs t o) (ca : o.ca = t.ca) (n : o.rm.length = t.rm.length) (pll : o.pl.length = t.pl.length)
    (pl : ∀ i : Nat, i < t.ts.length → gv o.pl i = (gv t.pl i + f) % t.rm.length)
    (rm : ∀ b : Nat, b < t.rm.length → gv o.rm (((b : Int) + f) % t.rm.length) = gv t.rm b) :
    Ord t o (fun b => (b + f) % t.rm.length) (fun b => (b - f) % t.rm.length) where
  hs := hs
  ca := ca
  n := n
  sr := fun b h0 h1 => by
    have hr := rm_pos hv
    have := mod_in (n := t.rm.length) (by omega) (b + f)
    exact ⟨this.1, this.2, mod_back h0 h1⟩
  rs := fun b h0 h1 => by
    have hr := rm_pos hv
    have := mod_in (n := t.rm.length) (by omega) (b - f)
    exact ⟨this.1, this.2, mod_forth h0 h1⟩
  pll := pll
  bd := fun i hi => pl_bnd hv hi
  pl := pl
  rm := fun b h0 h1 => by
    obtain ⟨k, rfl⟩ : ∃ k : Nat, b = k := ⟨b.toNat, by omega⟩
    exact rm k (by omega)
set_option maxHeartbeats 8000000 in
theorem c13 (t : Town) (f p : Int) : PC Tryd.prog 13 [hF t, .int .i64 f, .int .i64 p] (.bool true) := by
  have h16 := c16 t
  have h17 := c17
  by_cases h0 : readyT t
  case neg =>
    replace h16 := h16.fls h0
    refine PC.body Tryd.func13 (by kernel_rfl) rfl (by simp [Tryd.f13]) rfl ?_
    simp only [Tryd.f13]
    intro hlen
    simp only [go_sem, List.length_map, and_true, true_and] at hlen
    (repeat' (first | (with_reducible refine CV.same ?_; (try subst hY); (first | refine CV.gcc 23 fun Y hY => ?_ | refine CV.gc 23 fun Y hY => ?_ | skip); refine CV.run ?_) | ((with_reducible first | apply sg | apply si | apply sq | apply sd) <;> intro hb <;> (try rw [hb]) <;> (try simp only [bq, bz, dtrue, dfalse] at hb) <;> (try simp only [within] at hb) <;> try simp only [go_sem]) | refine And.intro (by first | exact ⟨⟩ | omega | (simp only [I64]; omega)) ?_ | (with_reducible rw [vc_draw_eq]; first | (refine CV.draw (id := 8) sF13g_f13_8 mixed rfl (by kernel_rfl) ?_; delta sF13g_f13_8) | (refine CV.draw (id := 12) sF13g_f13_12 mixed rfl (by kernel_rfl) ?_; delta sF13g_f13_12)) | ((with_reducible first | refine vp h16 ?_ ?_ | refine dc h16 ?_ ?_ | refine vp h17 ?_ ?_ | refine dc h17 ?_ ?_); focus (first | exact ⟨rfl, .inl ⟨by first | rfl | (simp only [go_sem, List.length_map, AV.pureL, AV.pure]; done), by first | (simp only [go_sem, List.length_map, AV.pureL, AV.pure]; done) | rfl⟩⟩ | exact ⟨rfl, .inr ⟨rfl, by simp only [go_sem, List.length_map]⟩⟩)) | ((with_reducible first | refine dp h16 ?_ ?_ | refine dp h17 ?_ ?_); focus (exact ⟨rfl, by first | rfl | (simp only [go_sem, List.length_map, AV.pureL, AV.pure]; done), by first | (simp only [go_sem, List.length_map, AV.pureL, AV.pure]; done) | rfl⟩)) | ((with_reducible first | refine ds h16 ?_ ?_ | refine ds h17 ?_ ?_); focus exact ⟨rfl, rfl⟩) | (simp only [go_sem, List.length_map])))
  replace h16 := h16.tru h0
  have hv := h0.2
  have h6 := ready_six h0
  by_cases f1 : f < 0
  · skip
    refine PC.body Tryd.func13 (by kernel_rfl) rfl (by simp [Tryd.f13]) rfl ?_
    simp only [Tryd.f13]
    intro hlen
    simp only [go_sem, List.length_map, and_true, true_and] at hlen
    (repeat' (first | (with_reducible refine CV.same ?_; (try subst hY); (first | refine CV.gcc 23 fun Y hY => ?_ | refine CV.gc 23 fun Y hY => ?_ | skip); refine CV.run ?_) | ((with_reducible first | apply sg | apply si | apply sq | apply sd) <;> intro hb <;> (try rw [hb]) <;> (try simp only [bq, bz, dtrue, dfalse] at hb) <;> (try simp only [within] at hb) <;> try simp only [go_sem]) | refine And.intro (by first | exact ⟨⟩ | omega | (simp only [I64]; omega)) ?_ | (with_reducible rw [vc_draw_eq]; first | (refine CV.draw (id := 8) sF13g_f13_8 mixed rfl (by kernel_rfl) ?_; delta sF13g_f13_8) | (refine CV.draw (id := 12) sF13g_f13_12 mixed rfl (by kernel_rfl) ?_; delta sF13g_f13_12)) | ((with_reducible first | refine vp h16 ?_ ?_ | refine dc h16 ?_ ?_ | refine vp h17 ?_ ?_ | refine dc h17 ?_ ?_); focus (first | exact ⟨rfl, .inl ⟨by first | rfl | (simp only [go_sem, f1, AV.pureL, AV.pure]; done), by first | (simp only [go_sem, f1, AV.pureL, AV.pure]; done) | rfl⟩⟩ | exact ⟨rfl, .inr ⟨rfl, by simp only [go_sem, f1]⟩⟩)) | ((with_reducible first | refine dp h16 ?_ ?_ | refine dp h17 ?_ ?_); focus (exact ⟨rfl, by first | rfl | (simp only [go_sem, f1, AV.pureL, AV.pure]; done), by first | (simp only [go_sem, f1, AV.pureL, AV.pure]; done) | rfl⟩)) | ((with_reducible first | refine ds h16 ?_ ?_ | refine ds h17 ?_ ?_); focus exact ⟨rfl, rfl⟩) | (simp only [go_sem, f1])))
  by_cases f2 : 100 < f
  · skip
    refine PC.body Tryd.func13 (by kernel_rfl) rfl (by simp [Tryd.f13]) rfl ?_
    simp only [Tryd.f13]
    intro hlen
    simp only [go_sem, List.length_map, and_true, true_and] at hlen
    (repeat' (first | (with_reducible refine CV.same ?_; (try subst hY); (first | refine CV.gcc 23 fun Y hY => ?_ | refine CV.gc 23 fun Y hY => ?_ | skip); refine CV.run ?_) | ((with_reducible first | apply sg | apply si | apply sq | apply sd) <;> intro hb <;> (try rw [hb]) <;> (try simp only [bq, bz, dtrue, dfalse] at hb) <;> (try simp only [within] at hb) <;> try simp only [go_sem]) | refine And.intro (by first | exact ⟨⟩ | omega | (simp only [I64]; omega)) ?_ | (with_reducible rw [vc_draw_eq]; first | (refine CV.draw (id := 8) sF13g_f13_8 mixed rfl (by kernel_rfl) ?_; delta sF13g_f13_8) | (refine CV.draw (id := 12) sF13g_f13_12 mixed rfl (by kernel_rfl) ?_; delta sF13g_f13_12)) | ((with_reducible first | refine vp h16 ?_ ?_ | refine dc h16 ?_ ?_ | refine vp h17 ?_ ?_ | refine dc h17 ?_ ?_); focus (first | exact ⟨rfl, .inl ⟨by first | rfl | (simp only [go_sem, f1, f2, AV.pureL, AV.pure]; done), by first | (simp only [go_sem, f1, f2, AV.pureL, AV.pure]; done) | rfl⟩⟩ | exact ⟨rfl, .inr ⟨rfl, by simp only [go_sem, f1, f2]⟩⟩)) | ((with_reducible first | refine dp h16 ?_ ?_ | refine dp h17 ?_ ?_); focus (exact ⟨rfl, by first | rfl | (simp only [go_sem, f1, f2, AV.pureL, AV.pure]; done), by first | (simp only [go_sem, f1, f2, AV.pureL, AV.pure]; done) | rfl⟩)) | ((with_reducible first | refine ds h16 ?_ ?_ | refine ds h17 ?_ ?_); focus exact ⟨rfl, rfl⟩) | (simp only [go_sem, f1, f2])))
  obtain ⟨g, rfl⟩ : ∃ g : Nat, f = g := ⟨f.toNat, by omega⟩
  have hpl := hv.lp
  have hr := rm_pos hv
  have hcp := h19 t h6.2.2
  have nz : ¬ ((t.rm.length : Nat) : Int) = 0 := by omega
  have ne_mod : ∀ i j : Nat, i < t.rm.length → j < t.rm.length → i ≠ j → ((i : Int) + g) % t.rm.length ≠ ((j : Int) + g) % t.rm.length := fun i j hi hj hne e => by
    have h1 := mod_back (n := t.rm.length) (x := (i : Int)) (f := g) (by omega) (by omega)
    have h2 := mod_back (n := t.rm.length) (x := (j : Int)) (f := g) (by omega) (by omega)
    rw [e, h2] at h1
    omega
  refine PC.body Tryd.func13 (by kernel_rfl) rfl (by simp [Tryd.f13]) rfl ?_
  simp only [Tryd.f13]
  intro hlen
  simp only [go_sem, List.length_map, and_true, true_and] at hlen
  (repeat' (first | (with_reducible refine CV.same ?_; (try subst hY); (first | refine CV.gcc 23 fun Y hY => ?_ | refine CV.gc 23 fun Y hY => ?_ | skip); refine CV.run ?_) | ((with_reducible first | apply sg | apply si | apply sq | apply sd) <;> intro hb <;> (try rw [hb]) <;> (try simp only [bq, bz, dtrue, dfalse] at hb) <;> (try simp only [within] at hb) <;> try simp only [go_sem]) | refine And.intro (by first | exact ⟨⟩ | omega | (simp only [I64]; omega)) ?_ | (with_reducible rw [vc_draw_eq]; first | (refine CV.draw (id := 8) sF13g_f13_8 mixed rfl (by kernel_rfl) ?_; delta sF13g_f13_8) | (refine CV.draw (id := 12) sF13g_f13_12 mixed rfl (by kernel_rfl) ?_; delta sF13g_f13_12)) | ((with_reducible first | refine vp h16 ?_ ?_ | refine dc h16 ?_ ?_); focus (first | exact ⟨rfl, .inl ⟨by first | rfl | (simp only [go_sem, f1, f2, List.length_map, AV.pureL, AV.pure]; done), by first | (simp only [go_sem, f1, f2, List.length_map, AV.pureL, AV.pure]; done) | rfl⟩⟩ | exact ⟨rfl, .inr ⟨rfl, by simp only [go_sem, f1, f2, List.length_map]⟩⟩)) | ((with_reducible first | refine dp h16 ?_ ?_); focus (exact ⟨rfl, by first | rfl | (simp only [go_sem, f1, f2, List.length_map, AV.pureL, AV.pure]; done), by first | (simp only [go_sem, f1, f2, List.length_map, AV.pureL, AV.pure]; done) | rfl⟩)) | ((with_reducible first | refine ds h16 ?_ ?_); focus exact ⟨rfl, rfl⟩) | (simp only [go_sem, f1, f2, List.length_map])))
  refine vcP_new hcp rfl ?_
  (repeat' (first | (with_reducible refine CV.same ?_; (try subst hY); (first | refine CV.gcc 23 fun Y hY => ?_ | refine CV.gc 23 fun Y hY => ?_ | skip); refine CV.run ?_) | ((with_reducible first | apply sg | apply si | apply sq | apply sd) <;> intro hb <;> (try rw [hb]) <;> (try simp only [bq, bz, dtrue, dfalse] at hb) <;> (try simp only [within] at hb) <;> try simp only [go_sem]) | refine And.intro (by first | exact ⟨⟩ | omega | (simp only [I64]; omega)) ?_ | (with_reducible rw [vc_draw_eq]; first | (refine CV.draw (id := 8) sF13g_f13_8 mixed rfl (by kernel_rfl) ?_; delta sF13g_f13_8) | (refine CV.draw (id := 12) sF13g_f13_12 mixed rfl (by kernel_rfl) ?_; delta sF13g_f13_12)) | (simp only [go_sem, List.map_cons, List.map_nil, List.cons_append, List.nil_append, List.length_cons, List.length_nil, List.length_map, Nat.zero_add, Nat.reduceAdd])))
  refine vc_fx (fun j (m : List Int) => ⟨[(9, .int .i64 j), (8, .lp 10 0), (7, .int .i64 t.rm.length), (6, .bool false), (3, .lp 0 0), (1, .int .i64 g), (2, .int .i64 p)], [.box 28 (cT t) false, .box 28 (cT t) false, .box 28 [.row 5 t.ts.length, .row 6 t.ms.length, .row 7 t.pl.length, .row 8 t.ca.length, .row 9 t.rm.length, .int .i64 t.mi] false, .box 25 [.lst false 4 (t.ts.map encT), .lst false 3 (t.ms.map encM)] false, .box 25 [.row 5 t.ts.length, .row 6 t.ms.length] false, .row 68 4 (t.ts.map encT) false, .row 59 3 (t.ms.map encM) false, .row 3 1 (t.pl.map encN) false, .row 3 1 (t.ca.map encN) false, .row 3 1 (m.map encN) false, .box 28 [.row 5 t.ts.length, .row 6 t.ms.length, .row 7 t.pl.length, .row 8 t.ca.length, .row 9 t.rm.length, .int .i64 t.mi] false]⟩) t.rm.length (fun j m => m.length = t.rm.length ∧ ∀ i : Nat, i < j → gv m (((i : Int) + g) % t.rm.length) = gv t.rm i) t.rm (.base (by (first | exact wk_same (by simp only [go_sem, Int.natCast_add, cn, Int.cast_ofNat_Int]) | (refine wk_drop ?_ ?_ ?_ ?_ ?_ <;> simp only [go_sem, Int.natCast_add, cn, Int.cast_ofNat_Int])))) ⟨rfl, fun i h => by omega⟩ ?_
  intro j m hj hx
  obtain ⟨x1, x2⟩ := hx
  rcases Nat.lt_or_ge j t.rm.length with hlt | hge
  · have hlt' : (j : Int) < t.rm.length := by omega
    obtain ⟨y, hy⟩ := get_of hlt
    have gy := gv_nat hy
    have hmi := mod_in (n := t.rm.length) (by omega) ((j : Int) + g)
    have hm0 := hmi.1
    have hm1 := hmi.2
    obtain ⟨k, hk⟩ : ∃ k : Nat, ((j : Int) + g) % t.rm.length = k := ⟨(((j : Int) + g) % t.rm.length).toNat, by omega⟩
    have hkl : (k : Int) < t.rm.length := by omega
    obtain ⟨z, hz⟩ := get_of (l := m) (j := k) (by omega)
    have hset := setN (m := m) (i := k) (x := y)
    have hI : I64 ((j : Int) + g) := ⟨by omega, by omega⟩
    (repeat' (first | (with_reducible refine CV.same ?_; (try subst hY); (first | refine CV.gcc 23 fun Y hY => ?_ | refine CV.gc 23 fun Y hY => ?_ | skip); refine CV.run ?_) | ((with_reducible first | apply sg | apply si | apply sq | apply sd) <;> intro hb <;> (try rw [hb]) <;> (try simp only [bq, bz, dtrue, dfalse] at hb) <;> (try simp only [within] at hb) <;> try simp only [go_sem]) | refine And.intro (by first | exact ⟨⟩ | omega | (simp only [I64]; omega)) ?_ | (with_reducible rw [vc_draw_eq]; first | (refine CV.draw (id := 8) sF13g_f13_8 mixed rfl (by kernel_rfl) ?_; delta sF13g_f13_8) | (refine CV.draw (id := 12) sF13g_f13_12 mixed rfl (by kernel_rfl) ?_; delta sF13g_f13_12)) | (simp only [go_sem, hlt', hy, hk, hkl, hz, hset, x1, nz, encN, List.length_map])))
    all_goals first
      | omega
      | (refine ⟨m.set k y, hlt, .base (by (first | exact wk_same (by simp only [go_sem, Int.natCast_add, cn, Int.cast_ofNat_Int]) | (refine wk_drop ?_ ?_ ?_ ?_ ?_ <;> simp only [go_sem, Int.natCast_add, cn, Int.cast_ofNat_Int]))), by simp [x1], fun i hi => ?_⟩
         by_cases e : i = j
         · subst e
           rw [hk, gv_set_eq (by omega), gy]
         · rw [gv_set_ne (mod_in (n := t.rm.length) (by omega) _).1 (by rw [← hk]; exact ne_mod i j (by omega) hlt e), x2 i (by omega)])
      | trace_state
  · have hge' : ¬ (j : Int) < t.rm.length := by omega
    have : j = t.rm.length := by omega
    subst this
    (repeat' (first | (with_reducible refine CV.same ?_; (try subst hY); (first | refine CV.gcc 23 fun Y hY => ?_ | refine CV.gc 23 fun Y hY => ?_ | skip); refine CV.run ?_) | ((with_reducible first | apply sg | apply si | apply sq | apply sd) <;> intro hb <;> (try rw [hb]) <;> (try simp only [bq, bz, dtrue, dfalse] at hb) <;> (try simp only [within] at hb) <;> try simp only [go_sem]) | refine And.intro (by first | exact ⟨⟩ | omega | (simp only [I64]; omega)) ?_ | (with_reducible rw [vc_draw_eq]; first | (refine CV.draw (id := 8) sF13g_f13_8 mixed rfl (by kernel_rfl) ?_; delta sF13g_f13_8) | (refine CV.draw (id := 12) sF13g_f13_12 mixed rfl (by kernel_rfl) ?_; delta sF13g_f13_12)) | (simp only [go_sem, hge', List.length_map])))
    refine vc_fx (fun j (m2 : List Int) => ⟨[(10, .int .i64 j), (8, .lp 10 0), (7, .int .i64 t.rm.length), (6, .bool false), (3, .lp 0 0), (1, .int .i64 g), (2, .int .i64 p)], [.box 28 (cT t) false, .box 28 (cT t) false, .box 28 [.row 5 t.ts.length, .row 6 t.ms.length, .row 7 t.pl.length, .row 8 t.ca.length, .row 9 t.rm.length, .int .i64 t.mi] false, .box 25 [.lst false 4 (t.ts.map encT), .lst false 3 (t.ms.map encM)] false, .box 25 [.row 5 t.ts.length, .row 6 t.ms.length] false, .row 68 4 (t.ts.map encT) false, .row 59 3 (t.ms.map encM) false, .row 3 1 (m2.map encN) false, .row 3 1 (t.ca.map encN) false, .row 3 1 (m.map encN) false, .box 28 [.row 5 t.ts.length, .row 6 t.ms.length, .row 7 t.pl.length, .row 8 t.ca.length, .row 9 t.rm.length, .int .i64 t.mi] false]⟩) t.pl.length (fun j m2 => m2.length = t.pl.length ∧ ∀ i : Nat, i < j → gv m2 i = (gv t.pl i + g) % t.rm.length) t.pl (.base (by (first | exact wk_same (by simp only [go_sem, Int.natCast_add, cn, Int.cast_ofNat_Int]) | (refine wk_drop ?_ ?_ ?_ ?_ ?_ <;> simp only [go_sem, Int.natCast_add, cn, Int.cast_ofNat_Int])))) ⟨rfl, fun i h => by omega⟩ ?_
    intro j m2 hj2 hy2
    obtain ⟨y1, y2⟩ := hy2
    rcases Nat.lt_or_ge j t.pl.length with hlt2 | hge2
    · have hlt2' : (j : Int) < t.pl.length := by omega
      obtain ⟨y, hy⟩ := get_of hlt2
      have gy := gv_nat hy
      have hyb := pl_bnd hv (i := j) (by omega)
      rw [gy] at hyb
      obtain ⟨z, hz⟩ := get_of (l := m2) (j := j) (by omega)
      have hset := setN (m := m2) (i := j) (x := (y + g) % t.rm.length)
      have hI : I64 (y + g) := ⟨by omega, by omega⟩
      have hy0 : 0 ≤ y + g := by omega
      (repeat' (first | (with_reducible refine CV.same ?_; (try subst hY); (first | refine CV.gcc 23 fun Y hY => ?_ | refine CV.gc 23 fun Y hY => ?_ | skip); refine CV.run ?_) | ((with_reducible first | apply sg | apply si | apply sq | apply sd) <;> intro hb <;> (try rw [hb]) <;> (try simp only [bq, bz, dtrue, dfalse] at hb) <;> (try simp only [within] at hb) <;> try simp only [go_sem]) | refine And.intro (by first | exact ⟨⟩ | omega | (simp only [I64]; omega)) ?_ | (with_reducible rw [vc_draw_eq]; first | (refine CV.draw (id := 8) sF13g_f13_8 mixed rfl (by kernel_rfl) ?_; delta sF13g_f13_8) | (refine CV.draw (id := 12) sF13g_f13_12 mixed rfl (by kernel_rfl) ?_; delta sF13g_f13_12)) | (simp only [go_sem, hlt2', hy, hz, hset, y1, nz, encN, List.length_map])))
      all_goals first
        | omega
        | (refine ⟨m2.set j ((y + g) % t.rm.length), hlt2, .base (by (first | exact wk_same (by simp only [go_sem, Int.natCast_add, cn, Int.cast_ofNat_Int]) | (refine wk_drop ?_ ?_ ?_ ?_ ?_ <;> simp only [go_sem, Int.natCast_add, cn, Int.cast_ofNat_Int]))), by simp [y1], fun i hi => ?_⟩
           by_cases e : i = j
           · subst e
             rw [gv_set_eq (by omega), gy]
           · rw [gv_set_ne (by omega) (by omega), y2 i (by omega)])
        | trace_state
    · have hge2' : ¬ (j : Int) < t.pl.length := by omega
      have : j = t.pl.length := by omega
      subst this
      obtain ⟨o, ho⟩ : ∃ o : Town, o = { t with pl := m2, rm := m } := ⟨_, rfl⟩
      have hs : Hs t o := by rw [ho]; exact ⟨rfl, rfl, rfl⟩
      have O := ord_mk (t := t) (o := o) (f := g) hv hs (by rw [ho]) (by rw [ho]; exact x1) (by rw [ho]; exact y1) (fun i hi => by rw [ho]; exact y2 i (by omega)) (fun b hb => by rw [ho]; exact x2 b hb)
      have vo := O.valid hv
      have a1 := c38y t hv
      have b1 := c38y o vo
      rw [decide_eq_decide.2 (O.safe hv)] at b1
      have a2 := c18y t hv
      have b2 := c18y o vo
      rw [cv_eq (O.rem hv).1 (O.rem hv).2] at b2
      generalize decide (safeP t) = S at a1 b1
      generalize cv (remT t) = C at a2 b2
      by_cases hp : isPage t p
      · have hpo : isPage o p := by rw [hs.isPage]; exact hp
        have a3 := c57y t p hv hp
        have b3 := c57y o p vo hpo
        rw [hs.thg, O.brs hv p] at b3
        subst ho
        by_cases hn : thg t p = []
        · rw [if_pos hn] at a3 b3
          (repeat' (first | (with_reducible refine CV.same ?_; (try subst hY); (first | refine CV.gcc 23 fun Y hY => ?_ | refine CV.gc 23 fun Y hY => ?_ | skip); refine CV.run ?_) | ((with_reducible first | apply sg | apply si | apply sq | apply sd) <;> intro hb <;> (try rw [hb]) <;> (try simp only [bq, bz, dtrue, dfalse] at hb) <;> (try simp only [within] at hb) <;> try simp only [go_sem]) | refine And.intro (by first | exact ⟨⟩ | omega | (simp only [I64]; omega)) ?_ | (with_reducible rw [vc_draw_eq]; first | (refine CV.draw (id := 8) sF13g_f13_8 mixed rfl (by kernel_rfl) ?_; delta sF13g_f13_8) | (refine CV.draw (id := 12) sF13g_f13_12 mixed rfl (by kernel_rfl) ?_; delta sF13g_f13_12)) | ((with_reducible first | refine vp a1 ?_ ?_ | refine dc a1 ?_ ?_ | refine vp b1 ?_ ?_ | refine dc b1 ?_ ?_ | refine vp a2 ?_ ?_ | refine dc a2 ?_ ?_ | refine vp b2 ?_ ?_ | refine dc b2 ?_ ?_ | refine vp a3 ?_ ?_ | refine dc a3 ?_ ?_ | refine vp b3 ?_ ?_ | refine dc b3 ?_ ?_ | refine vp h17 ?_ ?_ | refine dc h17 ?_ ?_); focus (first | exact ⟨rfl, .inl ⟨by first | rfl | (simp only [go_sem, hge2', List.length_map, y1, x1, AV.pureL, AV.pure]; done), by first | (simp only [go_sem, hge2', List.length_map, y1, x1, AV.pureL, AV.pure]; done) | rfl⟩⟩ | exact ⟨rfl, .inr ⟨rfl, by simp only [go_sem, hge2', List.length_map, y1, x1]⟩⟩)) | ((with_reducible first | refine dp a1 ?_ ?_ | refine dp b1 ?_ ?_ | refine dp a2 ?_ ?_ | refine dp b2 ?_ ?_ | refine dp a3 ?_ ?_ | refine dp b3 ?_ ?_ | refine dp h17 ?_ ?_); focus (exact ⟨rfl, by first | rfl | (simp only [go_sem, hge2', List.length_map, y1, x1, AV.pureL, AV.pure]; done), by first | (simp only [go_sem, hge2', List.length_map, y1, x1, AV.pureL, AV.pure]; done) | rfl⟩)) | ((with_reducible first | refine ds a1 ?_ ?_ | refine ds b1 ?_ ?_ | refine ds a2 ?_ ?_ | refine ds b2 ?_ ?_ | refine ds a3 ?_ ?_ | refine ds b3 ?_ ?_ | refine ds h17 ?_ ?_); focus exact ⟨rfl, rfl⟩) | (simp only [go_sem, hge2', List.length_map, y1, x1])))
          all_goals trace_state
        · rw [if_neg hn] at a3 b3
          generalize brs t p = B at a3 b3
          (repeat' (first | (with_reducible refine CV.same ?_; (try subst hY); (first | refine CV.gcc 23 fun Y hY => ?_ | refine CV.gc 23 fun Y hY => ?_ | skip); refine CV.run ?_) | ((with_reducible first | apply sg | apply si | apply sq | apply sd) <;> intro hb <;> (try rw [hb]) <;> (try simp only [bq, bz, dtrue, dfalse] at hb) <;> (try simp only [within] at hb) <;> try simp only [go_sem]) | refine And.intro (by first | exact ⟨⟩ | omega | (simp only [I64]; omega)) ?_ | (with_reducible rw [vc_draw_eq]; first | (refine CV.draw (id := 8) sF13g_f13_8 mixed rfl (by kernel_rfl) ?_; delta sF13g_f13_8) | (refine CV.draw (id := 12) sF13g_f13_12 mixed rfl (by kernel_rfl) ?_; delta sF13g_f13_12)) | ((with_reducible first | refine vp a1 ?_ ?_ | refine dc a1 ?_ ?_ | refine vp b1 ?_ ?_ | refine dc b1 ?_ ?_ | refine vp a2 ?_ ?_ | refine dc a2 ?_ ?_ | refine vp b2 ?_ ?_ | refine dc b2 ?_ ?_ | refine vp a3 ?_ ?_ | refine dc a3 ?_ ?_ | refine vp b3 ?_ ?_ | refine dc b3 ?_ ?_ | refine vp h17 ?_ ?_ | refine dc h17 ?_ ?_); focus (first | exact ⟨rfl, .inl ⟨by first | rfl | (simp only [go_sem, hge2', List.length_map, y1, x1, AV.pureL, AV.pure]; done), by first | (simp only [go_sem, hge2', List.length_map, y1, x1, AV.pureL, AV.pure]; done) | rfl⟩⟩ | exact ⟨rfl, .inr ⟨rfl, by simp only [go_sem, hge2', List.length_map, y1, x1]⟩⟩)) | ((with_reducible first | refine dp a1 ?_ ?_ | refine dp b1 ?_ ?_ | refine dp a2 ?_ ?_ | refine dp b2 ?_ ?_ | refine dp a3 ?_ ?_ | refine dp b3 ?_ ?_ | refine dp h17 ?_ ?_); focus (exact ⟨rfl, by first | rfl | (simp only [go_sem, hge2', List.length_map, y1, x1, AV.pureL, AV.pure]; done), by first | (simp only [go_sem, hge2', List.length_map, y1, x1, AV.pureL, AV.pure]; done) | rfl⟩)) | ((with_reducible first | refine ds a1 ?_ ?_ | refine ds b1 ?_ ?_ | refine ds a2 ?_ ?_ | refine ds b2 ?_ ?_ | refine ds a3 ?_ ?_ | refine ds b3 ?_ ?_ | refine ds h17 ?_ ?_); focus exact ⟨rfl, rfl⟩) | (simp only [go_sem, hge2', List.length_map, y1, x1])))
          all_goals trace_state
      · have hpo : ¬ isPage o p := by rw [hs.isPage]; exact hp
        have a3 := c57n t p (fun h => hp h.2)
        have b3 := c57n o p (fun h => hpo h.2)
        have e : askT o (isPage o p) = askT t (isPage t p) := by
          unfold askT
          rw [if_pos vo, if_pos hv, hs.isPage]
        rw [e] at b3
        generalize askT t (isPage t p) = E at a3 b3
        subst ho
        (repeat' (first | (with_reducible refine CV.same ?_; (try subst hY); (first | refine CV.gcc 23 fun Y hY => ?_ | refine CV.gc 23 fun Y hY => ?_ | skip); refine CV.run ?_) | ((with_reducible first | apply sg | apply si | apply sq | apply sd) <;> intro hb <;> (try rw [hb]) <;> (try simp only [bq, bz, dtrue, dfalse] at hb) <;> (try simp only [within] at hb) <;> try simp only [go_sem]) | refine And.intro (by first | exact ⟨⟩ | omega | (simp only [I64]; omega)) ?_ | (with_reducible rw [vc_draw_eq]; first | (refine CV.draw (id := 8) sF13g_f13_8 mixed rfl (by kernel_rfl) ?_; delta sF13g_f13_8) | (refine CV.draw (id := 12) sF13g_f13_12 mixed rfl (by kernel_rfl) ?_; delta sF13g_f13_12)) | ((with_reducible first | refine vp a1 ?_ ?_ | refine dc a1 ?_ ?_ | refine vp b1 ?_ ?_ | refine dc b1 ?_ ?_ | refine vp a2 ?_ ?_ | refine dc a2 ?_ ?_ | refine vp b2 ?_ ?_ | refine dc b2 ?_ ?_ | refine vp a3 ?_ ?_ | refine dc a3 ?_ ?_ | refine vp b3 ?_ ?_ | refine dc b3 ?_ ?_ | refine vp h17 ?_ ?_ | refine dc h17 ?_ ?_); focus (first | exact ⟨rfl, .inl ⟨by first | rfl | (simp only [go_sem, hge2', List.length_map, y1, x1, AV.pureL, AV.pure]; done), by first | (simp only [go_sem, hge2', List.length_map, y1, x1, AV.pureL, AV.pure]; done) | rfl⟩⟩ | exact ⟨rfl, .inr ⟨rfl, by simp only [go_sem, hge2', List.length_map, y1, x1]⟩⟩)) | ((with_reducible first | refine dp a1 ?_ ?_ | refine dp b1 ?_ ?_ | refine dp a2 ?_ ?_ | refine dp b2 ?_ ?_ | refine dp a3 ?_ ?_ | refine dp b3 ?_ ?_ | refine dp h17 ?_ ?_); focus (exact ⟨rfl, by first | rfl | (simp only [go_sem, hge2', List.length_map, y1, x1, AV.pureL, AV.pure]; done), by first | (simp only [go_sem, hge2', List.length_map, y1, x1, AV.pureL, AV.pure]; done) | rfl⟩)) | ((with_reducible first | refine ds a1 ?_ ?_ | refine ds b1 ?_ ?_ | refine ds a2 ?_ ?_ | refine ds b2 ?_ ?_ | refine ds a3 ?_ ?_ | refine ds b3 ?_ ?_ | refine ds h17 ?_ ?_); focus exact ⟨rfl, rfl⟩) | (simp only [go_sem, hge2', List.length_map, y1, x1])))
        all_goals trace_state
end Go.Proofs.YtjlopclpofbgbaaDoor

