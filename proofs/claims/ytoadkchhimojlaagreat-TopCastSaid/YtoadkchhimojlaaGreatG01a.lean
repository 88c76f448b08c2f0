/- Contracts of functions of the given program, without a condition beyond those that each theorem states; they lead to the given statement. -/
import Derived.Test.YtoadkchhimojlaaGreatTyp
import Derived.Test.YtoadkchhimojlaaGreatFlC
set_option linter.unusedSimpArgs false
set_option linter.unusedVariables false
set_option maxRecDepth 100000
namespace Go.Proofs.YtoadkchhimojlaaGreat
open Go Go.Fl
open Classical
theorem mixed : Tryz.prog.follows .mixedOrders = true := by kernel_rfl
structure Mach where
  ready : Int
  pace : Int
  stops : Int
structure Bun where
  train : Int
  hund : Int
  ed : Int
structure House where
  ms : List Mach
  bs : List Bun
  ts : List Int
  ch : Int
def encM (m : Mach) : List AV := [.int .i64 m.ready, .int .i64 m.pace, .int .i64 m.stops]
def encB (b : Bun) : List AV := [.int .i64 b.train, .int .i64 b.hund, .int .i64 b.ed]
theorem pureM (l : List Mach) : pureE (l.map encM) = True := pureE_map fun _ => rfl
theorem pureB (l : List Bun) : pureE (l.map encB) = True := pureE_map fun _ => rfl
abbrev cG (h : House) : List AV := [.lst false 3 (h.ms.map encM), .lst false 3 (h.bs.map encB), lN h.ts, .int .i64 h.ch]
abbrev hG (h : House) : AV := .agg (cG h)
theorem e400 : ((40 : Int) = 0) = False := by simp
theorem e404 : ((4 : Int) = 0) = False := by simp
attribute [go_sem] pureM pureB e400 e404
theorem c39 (n lo hi : Int) : PC Tryz.prog 39 [.int .i64 n, .int .i64 lo, .int .i64 hi] (.bool (decide (within n lo hi))) := by
  refine PC.body Tryz.func39 (by kernel_rfl) rfl (by simp [Tryz.f39]) rfl ?_
  simp only [Tryz.f39]
  intro hlen
  simp only [go_sem, List.length_map, and_true, true_and] at hlen
  refine CV.run ?_
  (repeat' (first | ((with_reducible first | refine vcG_split ?_ ?_ | refine vcIf_split ?_ ?_ | refine vcQ_split ?_ ?_ | refine vcDG_split ?_ ?_) <;> intro hb <;> (try rw [hb]) <;> (try simp only [bq, bz, dtrue, dfalse] at hb) <;> (try simp only [within] at hb) <;> try (simp only [go_sem])) | refine And.intro (by first | exact trivial | omega | (simp only [I64]; omega)) ?_ | (simp only [go_sem])))
  · simp [within, hb]
  · exact bf fun h => absurd h.1 (by omega)
theorem c37 (n lo hi : Int) : PC Tryz.prog 37 [.int .i64 n, .int .i64 lo, .int .i64 hi] (.bool (decide (within n lo hi))) := by
  refine PC.body Tryz.func37 (by kernel_rfl) rfl (by simp [Tryz.f37]) rfl ?_
  simp only [Tryz.f37]
  intro hlen
  simp only [go_sem, List.length_map, and_true, true_and] at hlen
  refine CV.run ?_
  (repeat' (first | ((with_reducible first | refine vcG_split ?_ ?_ | refine vcIf_split ?_ ?_ | refine vcQ_split ?_ ?_ | refine vcDG_split ?_ ?_) <;> intro hb <;> (try rw [hb]) <;> (try simp only [bq, bz, dtrue, dfalse] at hb) <;> (try simp only [within] at hb) <;> try (simp only [go_sem])) | refine And.intro (by first | exact trivial | omega | (simp only [I64]; omega)) ?_ | ((with_reducible first | refine vp (c39 _ _ _) ?_ ?_); focus (first | exact ⟨rfl, .inl ⟨by first | rfl | simp only [go_sem, AV.pureL, AV.pure], by first | (simp only [go_sem]; done) | rfl⟩⟩ | exact ⟨rfl, .inr ⟨rfl, by simp only [go_sem]⟩⟩)) | (simp only [go_sem])))
theorem c85 (n lo hi : Int) : PC Tryz.prog 85 [.int .i64 n, .int .i64 lo, .int .i64 hi] (.bool (decide (within n lo hi))) := by
  refine PC.body Tryz.func85 (by kernel_rfl) rfl (by simp [Tryz.f85]) rfl ?_
  simp only [Tryz.f85]
  intro hlen
  simp only [go_sem, List.length_map, and_true, true_and] at hlen
  refine CV.run ?_
  (repeat' (first | ((with_reducible first | refine vcG_split ?_ ?_ | refine vcIf_split ?_ ?_ | refine vcQ_split ?_ ?_ | refine vcDG_split ?_ ?_) <;> intro hb <;> (try rw [hb]) <;> (try simp only [bq, bz, dtrue, dfalse] at hb) <;> (try simp only [within] at hb) <;> try (simp only [go_sem])) | refine And.intro (by first | exact trivial | omega | (simp only [I64]; omega)) ?_ | (simp only [go_sem])))
  · simp [within, hb]
  · exact bf fun h => absurd h.1 (by omega)
theorem c38 (h : House) (n : Int) : PC Tryz.prog 38 [hG h, .int .i64 n] (.bool (decide (within n 0 (h.ts.length - 1)))) := by
  refine PC.body Tryz.func38 (by kernel_rfl) rfl (by simp [Tryz.f38]) rfl ?_
  simp only [Tryz.f38]
  intro hlen
  simp only [go_sem, List.length_map, and_true, true_and] at hlen
  refine CV.run ?_
  (repeat' (first | ((with_reducible first | refine vcG_split ?_ ?_ | refine vcIf_split ?_ ?_ | refine vcQ_split ?_ ?_ | refine vcDG_split ?_ ?_) <;> intro hb <;> (try rw [hb]) <;> (try simp only [bq, bz, dtrue, dfalse] at hb) <;> (try simp only [within] at hb) <;> try (simp only [go_sem])) | refine And.intro (by first | exact trivial | omega | (simp only [I64]; omega)) ?_ | ((with_reducible first | refine vp (c37 _ _ _) ?_ ?_); focus (first | exact ⟨rfl, .inl ⟨by first | rfl | simp only [go_sem, AV.pureL, AV.pure], by first | (simp only [go_sem]; done) | rfl⟩⟩ | exact ⟨rfl, .inr ⟨rfl, by simp only [go_sem]⟩⟩)) | (simp only [go_sem])))
theorem c90 (h : House) (n : Int) : PC Tryz.prog 90 [hG h, .int .i64 n] (.bool (decide (within n 0 (h.ts.length - 1)))) := by
  refine PC.body Tryz.func90 (by kernel_rfl) rfl (by simp [Tryz.f90]) rfl ?_
  simp only [Tryz.f90]
  intro hlen
  simp only [go_sem, List.length_map, and_true, true_and] at hlen
  refine CV.run ?_
  (repeat' (first | ((with_reducible first | refine vcG_split ?_ ?_ | refine vcIf_split ?_ ?_ | refine vcQ_split ?_ ?_ | refine vcDG_split ?_ ?_) <;> intro hb <;> (try rw [hb]) <;> (try simp only [bq, bz, dtrue, dfalse] at hb) <;> (try simp only [within] at hb) <;> try (simp only [go_sem])) | refine And.intro (by first | exact trivial | omega | (simp only [I64]; omega)) ?_ | ((with_reducible first | refine vp (c85 _ _ _) ?_ ?_); focus (first | exact ⟨rfl, .inl ⟨by first | rfl | simp only [go_sem, AV.pureL, AV.pure], by first | (simp only [go_sem]; done) | rfl⟩⟩ | exact ⟨rfl, .inr ⟨rfl, by simp only [go_sem]⟩⟩)) | (simp only [go_sem])))
def okMa (m : Mach) : Prop := within m.ready 0 99 ∧ within m.pace 1 9 ∧ within m.stops 0 1
def okBu (h : House) (b : Bun) : Prop := within b.train 0 (h.ts.length - 1) ∧ within b.hund 1 9 ∧ within b.ed 0 3
def okG (h : House) : Prop := 1 ≤ h.ms.length ∧ h.ms.length ≤ 3 ∧ h.ts.length ≤ 4 ∧ h.bs.length ≤ 5 ∧ within h.ch 0 9 ∧ (∀ m, m ∈ h.ms → okMa m) ∧ (∀ t, t ∈ h.ts → within t 0 99) ∧ ∀ b, b ∈ h.bs → okBu h b
noncomputable def checkG (h : House) : Int := if okG h then 0 else 40
theorem ckG0 {h : House} (q : okG h) : AV.int .i64 0 = .int .i64 (checkG h) := by simp [checkG, q]
theorem ckG4 {h : House} (q : ¬ okG h) : AV.int .i64 40 = .int .i64 (checkG h) := by simp [checkG, q]
theorem checkG0 {h : House} : (checkG h = 0) = okG h := by unfold checkG; split <;> simp_all
theorem not_okG {h : House} (q : h.ms.length < 1 ∨ 3 < h.ms.length ∨ 4 < h.ts.length ∨ 5 < h.bs.length ∨ ¬ within h.ch 0 9) : ¬ okG h := fun k => by
  obtain ⟨k1, k2, k3, k4, k5, _⟩ := k
  rcases q with q | q | q | q | q
  · omega
  · omega
  · omega
  · omega
  · exact q k5
set_option maxHeartbeats 1000000 in
theorem c16 (h : House) : PC Tryz.prog 16 [hG h] (.int .i64 (checkG h)) := by
  refine PC.body Tryz.func16 (by kernel_rfl) rfl (by simp [Tryz.f16]) rfl ?_
  simp only [Tryz.f16]
  intro hlen
  simp only [go_sem, List.length_map, and_true, true_and] at hlen
  refine CV.run ?_
  (repeat' (first | ((with_reducible first | refine vcG_split ?_ ?_ | refine vcIf_split ?_ ?_ | refine vcQ_split ?_ ?_ | refine vcDG_split ?_ ?_) <;> intro hb <;> (try rw [hb]) <;> (try simp only [bq, bz, dtrue, dfalse] at hb) <;> (try simp only [within] at hb) <;> try (simp only [go_sem])) | refine And.intro (by first | exact trivial | omega | (simp only [I64]; omega)) ?_ | ((with_reducible first | refine vp (c37 _ _ _) ?_ ?_); focus (first | exact ⟨rfl, .inl ⟨by first | rfl | simp only [go_sem, AV.pureL, AV.pure], by first | (simp only [go_sem]; done) | rfl⟩⟩ | exact ⟨rfl, .inr ⟨rfl, by simp only [go_sem]⟩⟩)) | (simp only [go_sem])))
  all_goals try exact ckG4 (not_okG (by unfold within; omega))
  have hch : within h.ch 0 9 := by unfold within; omega
  refine vc_for (fun j => ⟨[(3, .int .i64 j), (2, .int .i64 0), (1, .lp 0 0)], [.box 26 (cG h) false]⟩) h.ms.length (fun j => allTo (fun _ m => okMa m) h.ms j) (by (first | exact wk_same (by (simp only [go_sem, Int.natCast_add, cn, Int.cast_ofNat_Int])) | (refine wk_drop ?_ ?_ ?_ ?_ ?_ <;> (simp only [go_sem, Int.natCast_add, cn, Int.cast_ofNat_Int])))) .zero ?_
  intro j hj hx
  rcases Nat.lt_or_ge j h.ms.length with hlt | hge
  · obtain ⟨m, hm⟩ := get_of hlt
    have hlt' : (j : Int) < h.ms.length := by omega
    (repeat' (first | ((with_reducible first | refine vcG_split ?_ ?_ | refine vcIf_split ?_ ?_ | refine vcQ_split ?_ ?_ | refine vcDG_split ?_ ?_) <;> intro hb <;> (try rw [hb]) <;> (try simp only [bq, bz, dtrue, dfalse] at hb) <;> (try simp only [within] at hb) <;> try (simp only [go_sem, hlt', hm, encM])) | refine And.intro (by first | exact trivial | omega | (simp only [I64]; omega)) ?_ | ((with_reducible first | refine vp (c37 _ _ _) ?_ ?_); focus (first | exact ⟨rfl, .inl ⟨by first | rfl | simp only [go_sem, hlt', hm, encM, AV.pureL, AV.pure], by first | (simp only [go_sem, hlt', hm, encM]; done) | rfl⟩⟩ | exact ⟨rfl, .inr ⟨rfl, by simp only [go_sem, hlt', hm, encM]⟩⟩)) | (simp only [go_sem, hlt', hm, encM])))
    all_goals first
      | exact ckG4 (h := h) fun q => absurd (q.2.2.2.2.2.1 m (List.mem_of_getElem? hm)) (by unfold okMa within; omega)
      | exact ⟨by (first | exact wk_same (by (simp only [go_sem, Int.natCast_add, cn, Int.cast_ofNat_Int])) | (refine wk_drop ?_ ?_ ?_ ?_ ?_ <;> (simp only [go_sem, Int.natCast_add, cn, Int.cast_ofNat_Int]))), hx.succ hm (by unfold okMa within; omega)⟩
  have hmm := hx.mem hge
  have hge' : ¬ (j : Int) < h.ms.length := by omega
  (repeat' (first | ((with_reducible first | refine vcG_split ?_ ?_ | refine vcIf_split ?_ ?_ | refine vcQ_split ?_ ?_ | refine vcDG_split ?_ ?_) <;> intro hb <;> (try rw [hb]) <;> (try simp only [bq, bz, dtrue, dfalse] at hb) <;> (try simp only [within] at hb) <;> try (simp only [go_sem, hge'])) | refine And.intro (by first | exact trivial | omega | (simp only [I64]; omega)) ?_ | (simp only [go_sem, hge'])))
  refine vc_for (fun j => ⟨[(5, .int .i64 j), (2, .int .i64 0), (1, .lp 0 0)], [.box 26 (cG h) false]⟩) h.ts.length (fun j => allTo (fun _ n => within n 0 99) h.ts j) (by (first | exact wk_same (by (simp only [go_sem, Int.natCast_add, cn, Int.cast_ofNat_Int])) | (refine wk_drop ?_ ?_ ?_ ?_ ?_ <;> (simp only [go_sem, Int.natCast_add, cn, Int.cast_ofNat_Int])))) .zero ?_
  intro k hk hy
  rcases Nat.lt_or_ge k h.ts.length with hlt | hge2
  · obtain ⟨n, hn⟩ := get_of hlt
    have hlt' : (k : Int) < h.ts.length := by omega
    (repeat' (first | ((with_reducible first | refine vcG_split ?_ ?_ | refine vcIf_split ?_ ?_ | refine vcQ_split ?_ ?_ | refine vcDG_split ?_ ?_) <;> intro hb <;> (try rw [hb]) <;> (try simp only [bq, bz, dtrue, dfalse] at hb) <;> (try simp only [within] at hb) <;> try (simp only [go_sem, hlt', hn, encN])) | refine And.intro (by first | exact trivial | omega | (simp only [I64]; omega)) ?_ | ((with_reducible first | refine vp (c37 _ _ _) ?_ ?_); focus (first | exact ⟨rfl, .inl ⟨by first | rfl | simp only [go_sem, hlt', hn, encN, AV.pureL, AV.pure], by first | (simp only [go_sem, hlt', hn, encN]; done) | rfl⟩⟩ | exact ⟨rfl, .inr ⟨rfl, by simp only [go_sem, hlt', hn, encN]⟩⟩)) | (simp only [go_sem, hlt', hn, encN])))
    · exact ckG4 (h := h) fun q => absurd (q.2.2.2.2.2.2.1 n (List.mem_of_getElem? hn)) (by unfold within; omega)
    · exact ⟨by (first | exact wk_same (by (simp only [go_sem, Int.natCast_add, cn, Int.cast_ofNat_Int])) | (refine wk_drop ?_ ?_ ?_ ?_ ?_ <;> (simp only [go_sem, Int.natCast_add, cn, Int.cast_ofNat_Int]))), hy.succ hn (by unfold within; omega)⟩
  have htt := hy.mem hge2
  have hge2' : ¬ (k : Int) < h.ts.length := by omega
  (repeat' (first | ((with_reducible first | refine vcG_split ?_ ?_ | refine vcIf_split ?_ ?_ | refine vcQ_split ?_ ?_ | refine vcDG_split ?_ ?_) <;> intro hb <;> (try rw [hb]) <;> (try simp only [bq, bz, dtrue, dfalse] at hb) <;> (try simp only [within] at hb) <;> try (simp only [go_sem, hge2'])) | refine And.intro (by first | exact trivial | omega | (simp only [I64]; omega)) ?_ | (simp only [go_sem, hge2'])))
  refine vc_for (fun j => ⟨[(6, .int .i64 j), (2, .int .i64 0), (1, .lp 0 0)], [.box 26 (cG h) false]⟩) h.bs.length (fun j => allTo (fun _ b => okBu h b) h.bs j) (by (first | exact wk_same (by (simp only [go_sem, Int.natCast_add, cn, Int.cast_ofNat_Int])) | (refine wk_drop ?_ ?_ ?_ ?_ ?_ <;> (simp only [go_sem, Int.natCast_add, cn, Int.cast_ofNat_Int])))) .zero ?_
  intro i hi hz
  rcases Nat.lt_or_ge i h.bs.length with hlt | hge3
  · obtain ⟨b, hbb⟩ := get_of hlt
    have hlt' : (i : Int) < h.bs.length := by omega
    (repeat' (first | ((with_reducible first | refine vcG_split ?_ ?_ | refine vcIf_split ?_ ?_ | refine vcQ_split ?_ ?_ | refine vcDG_split ?_ ?_) <;> intro hb <;> (try rw [hb]) <;> (try simp only [bq, bz, dtrue, dfalse] at hb) <;> (try simp only [within] at hb) <;> try (simp only [go_sem, hlt', hbb, encB])) | refine And.intro (by first | exact trivial | omega | (simp only [I64]; omega)) ?_ | ((with_reducible first | refine vp (c37 _ _ _) ?_ ?_ | refine vp (c38 h _) ?_ ?_); focus (first | exact ⟨rfl, .inl ⟨by first | rfl | simp only [go_sem, hlt', hbb, encB, AV.pureL, AV.pure], by first | (simp only [go_sem, hlt', hbb, encB]; done) | rfl⟩⟩ | exact ⟨rfl, .inr ⟨rfl, by simp only [go_sem, hlt', hbb, encB]⟩⟩)) | (simp only [go_sem, hlt', hbb, encB])))
    all_goals first
      | exact ckG4 (h := h) fun q => absurd (q.2.2.2.2.2.2.2 b (List.mem_of_getElem? hbb)) (by unfold okBu within; omega)
      | exact ⟨by (first | exact wk_same (by (simp only [go_sem, Int.natCast_add, cn, Int.cast_ofNat_Int])) | (refine wk_drop ?_ ?_ ?_ ?_ ?_ <;> (simp only [go_sem, Int.natCast_add, cn, Int.cast_ofNat_Int]))), hz.succ hbb (by unfold okBu within; omega)⟩
  · have hge3' : ¬ (i : Int) < h.bs.length := by omega
    (repeat' (first | ((with_reducible first | refine vcG_split ?_ ?_ | refine vcIf_split ?_ ?_ | refine vcQ_split ?_ ?_ | refine vcDG_split ?_ ?_) <;> intro hb <;> (try rw [hb]) <;> (try simp only [bq, bz, dtrue, dfalse] at hb) <;> (try simp only [within] at hb) <;> try (simp only [go_sem, hge3'])) | refine And.intro (by first | exact trivial | omega | (simp only [I64]; omega)) ?_ | (simp only [go_sem, hge3'])))
    exact ckG0 ⟨by omega, by omega, by omega, by omega, hch, hmm, htt, hz.mem hge3⟩
theorem c84 (n : Int) : PC Tryz.prog 84 [.int .i64 n] (.bool (decide (within n 0 99))) := by
  refine PC.body Tryz.func84 (by kernel_rfl) rfl (by simp [Tryz.f84]) rfl ?_
  simp only [Tryz.f84]
  intro hlen
  simp only [go_sem, List.length_map, and_true, true_and] at hlen
  refine CV.run ?_
  (repeat' (first | ((with_reducible first | refine vcG_split ?_ ?_ | refine vcIf_split ?_ ?_ | refine vcQ_split ?_ ?_ | refine vcDG_split ?_ ?_) <;> intro hb <;> (try rw [hb]) <;> (try simp only [bq, bz, dtrue, dfalse] at hb) <;> (try simp only [within] at hb) <;> try (simp only [go_sem])) | refine And.intro (by first | exact trivial | omega | (simp only [I64]; omega)) ?_ | ((with_reducible first | refine vp (c85 _ _ _) ?_ ?_); focus (first | exact ⟨rfl, .inl ⟨by first | rfl | simp only [go_sem, AV.pureL, AV.pure], by first | (simp only [go_sem]; done) | rfl⟩⟩ | exact ⟨rfl, .inr ⟨rfl, by simp only [go_sem]⟩⟩)) | (simp only [go_sem])))
theorem c86 (n : Int) : PC Tryz.prog 86 [.int .i64 n, .pp [.fn 84 []]] (.bool (decide (¬ within n 0 99))) := by
  refine PC.body Tryz.func86 (by kernel_rfl) rfl (by simp [Tryz.f86]) rfl ?_
  simp only [Tryz.f86]
  intro hlen
  simp only [go_sem, List.length_map, and_true, true_and] at hlen
  refine CV.run ?_
  (repeat' (first | ((with_reducible first | refine vcG_split ?_ ?_ | refine vcIf_split ?_ ?_ | refine vcQ_split ?_ ?_ | refine vcDG_split ?_ ?_) <;> intro hb <;> (try rw [hb]) <;> (try simp only [bq, bz, dtrue, dfalse] at hb) <;> (try simp only [within] at hb) <;> try (simp only [go_sem])) | refine And.intro (by first | exact trivial | omega | (simp only [I64]; omega)) ?_ | ((with_reducible first | refine vp (c84 _) ?_ ?_); focus (first | exact ⟨rfl, .inl ⟨by first | rfl | simp only [go_sem, AV.pureL, AV.pure], by first | (simp only [go_sem]; done) | rfl⟩⟩ | exact ⟨rfl, .inr ⟨rfl, by simp only [go_sem]⟩⟩)) | (simp only [go_sem])))
  exact bn (by simp)
theorem c88 (m : Mach) : PC Tryz.prog 88 [.agg (encM m), .pp [.fn 84 []]] (.bool (decide (¬ okMa m))) := by
  simp only [encM]
  refine PC.body Tryz.func88 (by kernel_rfl) rfl (by simp [Tryz.f88]) rfl ?_
  simp only [Tryz.f88]
  intro hlen
  simp only [go_sem, List.length_map, and_true, true_and] at hlen
  refine CV.run ?_
  (repeat' (first | ((with_reducible first | refine vcG_split ?_ ?_ | refine vcIf_split ?_ ?_ | refine vcQ_split ?_ ?_ | refine vcDG_split ?_ ?_) <;> intro hb <;> (try rw [hb]) <;> (try simp only [bq, bz, dtrue, dfalse] at hb) <;> (try simp only [within] at hb) <;> try (simp only [go_sem])) | refine And.intro (by first | exact trivial | omega | (simp only [I64]; omega)) ?_ | ((with_reducible first | refine vp (c84 _) ?_ ?_ | refine vp (c85 _ _ _) ?_ ?_); focus (first | exact ⟨rfl, .inl ⟨by first | rfl | simp only [go_sem, AV.pureL, AV.pure], by first | (simp only [go_sem]; done) | rfl⟩⟩ | exact ⟨rfl, .inr ⟨rfl, by simp only [go_sem]⟩⟩)) | (simp only [go_sem])))
  all_goals first
    | exact bt (p := ¬ okMa m) (by unfold okMa within; omega)
    | exact bn (by unfold okMa within; omega)
theorem c89 (h : House) (b : Bun) : PC Tryz.prog 89 [.agg (encB b), .pp (cG h)] (.bool (decide (¬ okBu h b))) := by
  simp only [encB]
  refine PC.body Tryz.func89 (by kernel_rfl) rfl (by simp [Tryz.f89]) rfl ?_
  simp only [Tryz.f89]
  intro hlen
  simp only [go_sem, List.length_map, and_true, true_and] at hlen
  refine CV.run ?_
  (repeat' (first | ((with_reducible first | refine vcG_split ?_ ?_ | refine vcIf_split ?_ ?_ | refine vcQ_split ?_ ?_ | refine vcDG_split ?_ ?_) <;> intro hb <;> (try rw [hb]) <;> (try simp only [bq, bz, dtrue, dfalse] at hb) <;> (try simp only [within] at hb) <;> try (simp only [go_sem])) | refine And.intro (by first | exact trivial | omega | (simp only [I64]; omega)) ?_ | ((with_reducible first | refine vp (c90 h _) ?_ ?_ | refine vp (c85 _ _ _) ?_ ?_); focus (first | exact ⟨rfl, .inl ⟨by first | rfl | simp only [go_sem, AV.pureL, AV.pure], by first | (simp only [go_sem]; done) | rfl⟩⟩ | exact ⟨rfl, .inr ⟨rfl, by simp only [go_sem]⟩⟩)) | (simp only [go_sem])))
  all_goals first
    | exact bt (p := ¬ okBu h b) (by unfold okBu within; omega)
    | exact bn (by unfold okBu within; omega)
theorem c91 (l : List Int) (g : Nat) (cs : List AV) (hcp : AV.pureL cs = true) (q : Int → Prop) (hf : ∀ n, n ∈ l → PC Tryz.prog g [.int .i64 n, .pp cs] (.bool (decide (q n)))) : PC Tryz.prog 91 [lN l, .fn g [.pp cs]] (.int .i64 (ix q l)) := by
  have hfz := frzL_self [] cs hcp
  refine PC.body Tryz.func91 (by kernel_rfl) rfl (by simp [Tryz.f91]) rfl ?_
  simp only [Tryz.f91]
  intro hlen
  simp only [go_sem, List.length_map, and_true, true_and] at hlen
  refine CV.run ?_
  (repeat' (first | ((with_reducible first | refine vcG_split ?_ ?_ | refine vcIf_split ?_ ?_ | refine vcQ_split ?_ ?_ | refine vcDG_split ?_ ?_) <;> intro hb <;> (try rw [hb]) <;> (try simp only [bq, bz, dtrue, dfalse] at hb) <;> (try simp only [within] at hb) <;> try (simp only [go_sem, hfz])) | refine And.intro (by first | exact trivial | omega | (simp only [I64]; omega)) ?_ | (simp only [go_sem, hfz])))
  refine vc_for (fun j => ⟨[(8, .int .i64 j), (7, .int .i64 l.length), (4, .int .i64 0), (0, lN l), (1, .fn g [.pp cs])], []⟩) l.length (fun j => ∀ i, i < j → ∀ b, l[i]? = some b → ¬ q b) (by (first | exact wk_same (by (simp only [go_sem, Int.natCast_add, cn, Int.cast_ofNat_Int])) | (refine wk_drop ?_ ?_ ?_ ?_ ?_ <;> (simp only [go_sem, Int.natCast_add, cn, Int.cast_ofNat_Int])))) (fun i h => by omega) ?_
  intro j hj hx
  rcases Nat.lt_or_ge j l.length with hlt | hge
  · obtain ⟨m, hm⟩ := get_of hlt
    have hlt' : (j : Int) < l.length := by omega
    have hfm := hf m (List.mem_of_getElem? hm)
    (repeat' (first | ((with_reducible first | refine vcG_split ?_ ?_ | refine vcIf_split ?_ ?_ | refine vcQ_split ?_ ?_ | refine vcDG_split ?_ ?_) <;> intro hb <;> (try rw [hb]) <;> (try simp only [bq, bz, dtrue, dfalse] at hb) <;> (try simp only [within] at hb) <;> try (simp only [go_sem, hlt', hm, encN, hfz])) | refine And.intro (by first | exact trivial | omega | (simp only [I64]; omega)) ?_ | ((with_reducible first | refine vp hfm ?_ ?_); focus (first | exact ⟨rfl, .inl ⟨by first | rfl | simp only [go_sem, hlt', hm, encN, hfz, AV.pureL, AV.pure], by first | (simp only [go_sem, hlt', hm, encN, hfz]; done) | rfl⟩⟩ | exact ⟨rfl, .inr ⟨rfl, by simp only [go_sem, hlt', hm, encN, hfz]⟩⟩)) | (simp only [go_sem, hlt', hm, encN, hfz])))
    · rw [ix_at ⟨⟨m, hm, hb⟩, hx⟩]
    · refine ⟨by (first | exact wk_same (by (simp only [go_sem, Int.natCast_add, cn, Int.cast_ofNat_Int])) | (refine wk_drop ?_ ?_ ?_ ?_ ?_ <;> (simp only [go_sem, Int.natCast_add, cn, Int.cast_ofNat_Int]))), fun i hi b hib => ?_⟩
      rcases Nat.lt_or_ge i j with h | h
      · exact hx i h b hib
      · have : i = j := by omega
        subst this
        rw [hm] at hib; cases hib; exact hb
  · have hge' : ¬ (j : Int) < l.length := by omega
    (repeat' (first | ((with_reducible first | refine vcG_split ?_ ?_ | refine vcIf_split ?_ ?_ | refine vcQ_split ?_ ?_ | refine vcDG_split ?_ ?_) <;> intro hb <;> (try rw [hb]) <;> (try simp only [bq, bz, dtrue, dfalse] at hb) <;> (try simp only [within] at hb) <;> try (simp only [go_sem, hge'])) | refine And.intro (by first | exact trivial | omega | (simp only [I64]; omega)) ?_ | (simp only [go_sem, hge'])))
    rw [ix_no (fun i b hb => hx i (by have := (List.getElem?_eq_some_iff.1 hb).1; omega) b hb)]
theorem c58 (l : List Int) (g : Nat) (cs : List AV) (hcp : AV.pureL cs = true) (q : Int → Prop) (hf : ∀ n, n ∈ l → PC Tryz.prog g [.int .i64 n, .pp cs] (.bool (decide (q n)))) : PC Tryz.prog 58 [lN l, .fn g [.pp cs]] (.bool (decide (∃ n, n ∈ l ∧ q n))) := by
  have hfz := frzL_self [] cs hcp
  refine PC.body Tryz.func58 (by kernel_rfl) rfl (by simp [Tryz.f58]) rfl ?_
  simp only [Tryz.f58]
  intro hlen
  simp only [go_sem, List.length_map, and_true, true_and] at hlen
  refine CV.run ?_
  (repeat' (first | ((with_reducible first | refine vcG_split ?_ ?_ | refine vcIf_split ?_ ?_ | refine vcQ_split ?_ ?_ | refine vcDG_split ?_ ?_) <;> intro hb <;> (try rw [hb]) <;> (try simp only [bq, bz, dtrue, dfalse] at hb) <;> (try simp only [within] at hb) <;> try (simp only [go_sem, hfz])) | refine And.intro (by first | exact trivial | omega | (simp only [I64]; omega)) ?_ | ((with_reducible first | refine vp (c91 l g cs hcp q hf) ?_ ?_); focus (first | exact ⟨rfl, .inl ⟨by first | rfl | simp only [go_sem, hfz, AV.pureL, AV.pure], by first | (simp only [go_sem, hfz]; done) | rfl⟩⟩ | exact ⟨rfl, .inr ⟨rfl, by simp only [go_sem, hfz]⟩⟩)) | (simp only [go_sem, hfz])))
  exact bd ix_ge
theorem c103 (l : List Mach) (g : Nat) (cs : List AV) (hcp : AV.pureL cs = true) (q : Mach → Prop) (hf : ∀ n, n ∈ l → PC Tryz.prog g [.agg (encM n), .pp cs] (.bool (decide (q n)))) : PC Tryz.prog 103 [.lst false 3 (l.map encM), .fn g [.pp cs]] (.int .i64 (ix q l)) := by
  have hfz := frzL_self [] cs hcp
  refine PC.body Tryz.func103 (by kernel_rfl) rfl (by simp [Tryz.f103]) rfl ?_
  simp only [Tryz.f103]
  intro hlen
  simp only [go_sem, List.length_map, and_true, true_and] at hlen
  refine CV.run ?_
  (repeat' (first | ((with_reducible first | refine vcG_split ?_ ?_ | refine vcIf_split ?_ ?_ | refine vcQ_split ?_ ?_ | refine vcDG_split ?_ ?_) <;> intro hb <;> (try rw [hb]) <;> (try simp only [bq, bz, dtrue, dfalse] at hb) <;> (try simp only [within] at hb) <;> try (simp only [go_sem, hfz])) | refine And.intro (by first | exact trivial | omega | (simp only [I64]; omega)) ?_ | (simp only [go_sem, hfz])))
  refine vc_for (fun j => ⟨[(8, .int .i64 j), (7, .int .i64 l.length), (4, .int .i64 0), (0, .lst false 3 (l.map encM)), (1, .fn g [.pp cs])], []⟩) l.length (fun j => ∀ i, i < j → ∀ b, l[i]? = some b → ¬ q b) (by (first | exact wk_same (by (simp only [go_sem, Int.natCast_add, cn, Int.cast_ofNat_Int])) | (refine wk_drop ?_ ?_ ?_ ?_ ?_ <;> (simp only [go_sem, Int.natCast_add, cn, Int.cast_ofNat_Int])))) (fun i h => by omega) ?_
  intro j hj hx
  rcases Nat.lt_or_ge j l.length with hlt | hge
  · obtain ⟨m, hm⟩ := get_of hlt
    have hlt' : (j : Int) < l.length := by omega
    have hfm := hf m (List.mem_of_getElem? hm)
    simp only [encM] at hfm
    (repeat' (first | ((with_reducible first | refine vcG_split ?_ ?_ | refine vcIf_split ?_ ?_ | refine vcQ_split ?_ ?_ | refine vcDG_split ?_ ?_) <;> intro hb <;> (try rw [hb]) <;> (try simp only [bq, bz, dtrue, dfalse] at hb) <;> (try simp only [within] at hb) <;> try (simp only [go_sem, hlt', hm, encM, hfz])) | refine And.intro (by first | exact trivial | omega | (simp only [I64]; omega)) ?_ | ((with_reducible first | refine vp hfm ?_ ?_); focus (first | exact ⟨rfl, .inl ⟨by first | rfl | simp only [go_sem, hlt', hm, encM, hfz, AV.pureL, AV.pure], by first | (simp only [go_sem, hlt', hm, encM, hfz]; done) | rfl⟩⟩ | exact ⟨rfl, .inr ⟨rfl, by simp only [go_sem, hlt', hm, encM, hfz]⟩⟩)) | (simp only [go_sem, hlt', hm, encM, hfz])))
    · rw [ix_at ⟨⟨m, hm, hb⟩, hx⟩]
    · refine ⟨by (first | exact wk_same (by (simp only [go_sem, Int.natCast_add, cn, Int.cast_ofNat_Int])) | (refine wk_drop ?_ ?_ ?_ ?_ ?_ <;> (simp only [go_sem, Int.natCast_add, cn, Int.cast_ofNat_Int]))), fun i hi b hib => ?_⟩
      rcases Nat.lt_or_ge i j with h | h
      · exact hx i h b hib
      · have : i = j := by omega
        subst this
        rw [hm] at hib; cases hib; exact hb
  · have hge' : ¬ (j : Int) < l.length := by omega
    (repeat' (first | ((with_reducible first | refine vcG_split ?_ ?_ | refine vcIf_split ?_ ?_ | refine vcQ_split ?_ ?_ | refine vcDG_split ?_ ?_) <;> intro hb <;> (try rw [hb]) <;> (try simp only [bq, bz, dtrue, dfalse] at hb) <;> (try simp only [within] at hb) <;> try (simp only [go_sem, hge'])) | refine And.intro (by first | exact trivial | omega | (simp only [I64]; omega)) ?_ | (simp only [go_sem, hge'])))
    rw [ix_no (fun i b hb => hx i (by have := (List.getElem?_eq_some_iff.1 hb).1; omega) b hb)]
theorem c87 (l : List Mach) (g : Nat) (cs : List AV) (hcp : AV.pureL cs = true) (q : Mach → Prop) (hf : ∀ n, n ∈ l → PC Tryz.prog g [.agg (encM n), .pp cs] (.bool (decide (q n)))) : PC Tryz.prog 87 [.lst false 3 (l.map encM), .fn g [.pp cs]] (.bool (decide (∃ n, n ∈ l ∧ q n))) := by
  have hfz := frzL_self [] cs hcp
  refine PC.body Tryz.func87 (by kernel_rfl) rfl (by simp [Tryz.f87]) rfl ?_
  simp only [Tryz.f87]
  intro hlen
  simp only [go_sem, List.length_map, and_true, true_and] at hlen
  refine CV.run ?_
  (repeat' (first | ((with_reducible first | refine vcG_split ?_ ?_ | refine vcIf_split ?_ ?_ | refine vcQ_split ?_ ?_ | refine vcDG_split ?_ ?_) <;> intro hb <;> (try rw [hb]) <;> (try simp only [bq, bz, dtrue, dfalse] at hb) <;> (try simp only [within] at hb) <;> try (simp only [go_sem, hfz])) | refine And.intro (by first | exact trivial | omega | (simp only [I64]; omega)) ?_ | ((with_reducible first | refine vp (c103 l g cs hcp q hf) ?_ ?_); focus (first | exact ⟨rfl, .inl ⟨by first | rfl | simp only [go_sem, hfz, AV.pureL, AV.pure], by first | (simp only [go_sem, hfz]; done) | rfl⟩⟩ | exact ⟨rfl, .inr ⟨rfl, by simp only [go_sem, hfz]⟩⟩)) | (simp only [go_sem, hfz])))
  exact bd ix_ge
theorem c92 (l : List Bun) (g : Nat) (cs : List AV) (hcp : AV.pureL cs = true) (q : Bun → Prop) (hf : ∀ n, n ∈ l → PC Tryz.prog g [.agg (encB n), .pp cs] (.bool (decide (q n)))) : PC Tryz.prog 92 [.lst false 3 (l.map encB), .fn g [.pp cs]] (.int .i64 (ix q l)) := by
  have hfz := frzL_self [] cs hcp
  refine PC.body Tryz.func92 (by kernel_rfl) rfl (by simp [Tryz.f92]) rfl ?_
  simp only [Tryz.f92]
  intro hlen
  simp only [go_sem, List.length_map, and_true, true_and] at hlen
  refine CV.run ?_
  (repeat' (first | ((with_reducible first | refine vcG_split ?_ ?_ | refine vcIf_split ?_ ?_ | refine vcQ_split ?_ ?_ | refine vcDG_split ?_ ?_) <;> intro hb <;> (try rw [hb]) <;> (try simp only [bq, bz, dtrue, dfalse] at hb) <;> (try simp only [within] at hb) <;> try (simp only [go_sem, hfz])) | refine And.intro (by first | exact trivial | omega | (simp only [I64]; omega)) ?_ | (simp only [go_sem, hfz])))
  refine vc_for (fun j => ⟨[(8, .int .i64 j), (7, .int .i64 l.length), (4, .int .i64 0), (0, .lst false 3 (l.map encB)), (1, .fn g [.pp cs])], []⟩) l.length (fun j => ∀ i, i < j → ∀ b, l[i]? = some b → ¬ q b) (by (first | exact wk_same (by (simp only [go_sem, Int.natCast_add, cn, Int.cast_ofNat_Int])) | (refine wk_drop ?_ ?_ ?_ ?_ ?_ <;> (simp only [go_sem, Int.natCast_add, cn, Int.cast_ofNat_Int])))) (fun i h => by omega) ?_
  intro j hj hx
  rcases Nat.lt_or_ge j l.length with hlt | hge
  · obtain ⟨m, hm⟩ := get_of hlt
    have hlt' : (j : Int) < l.length := by omega
    have hfm := hf m (List.mem_of_getElem? hm)
    simp only [encB] at hfm
    (repeat' (first | ((with_reducible first | refine vcG_split ?_ ?_ | refine vcIf_split ?_ ?_ | refine vcQ_split ?_ ?_ | refine vcDG_split ?_ ?_) <;> intro hb <;> (try rw [hb]) <;> (try simp only [bq, bz, dtrue, dfalse] at hb) <;> (try simp only [within] at hb) <;> try (simp only [go_sem, hlt', hm, encB, hfz])) | refine And.intro (by first | exact trivial | omega | (simp only [I64]; omega)) ?_ | ((with_reducible first | refine vp hfm ?_ ?_); focus (first | exact ⟨rfl, .inl ⟨by first | rfl | simp only [go_sem, hlt', hm, encB, hfz, AV.pureL, AV.pure], by first | (simp only [go_sem, hlt', hm, encB, hfz]; done) | rfl⟩⟩ | exact ⟨rfl, .inr ⟨rfl, by simp only [go_sem, hlt', hm, encB, hfz]⟩⟩)) | (simp only [go_sem, hlt', hm, encB, hfz])))
    · rw [ix_at ⟨⟨m, hm, hb⟩, hx⟩]
    · refine ⟨by (first | exact wk_same (by (simp only [go_sem, Int.natCast_add, cn, Int.cast_ofNat_Int])) | (refine wk_drop ?_ ?_ ?_ ?_ ?_ <;> (simp only [go_sem, Int.natCast_add, cn, Int.cast_ofNat_Int]))), fun i hi b hib => ?_⟩
      rcases Nat.lt_or_ge i j with h | h
      · exact hx i h b hib
      · have : i = j := by omega
        subst this
        rw [hm] at hib; cases hib; exact hb
  · have hge' : ¬ (j : Int) < l.length := by omega
    (repeat' (first | ((with_reducible first | refine vcG_split ?_ ?_ | refine vcIf_split ?_ ?_ | refine vcQ_split ?_ ?_ | refine vcDG_split ?_ ?_) <;> intro hb <;> (try rw [hb]) <;> (try simp only [bq, bz, dtrue, dfalse] at hb) <;> (try simp only [within] at hb) <;> try (simp only [go_sem, hge'])) | refine And.intro (by first | exact trivial | omega | (simp only [I64]; omega)) ?_ | (simp only [go_sem, hge'])))
    rw [ix_no (fun i b hb => hx i (by have := (List.getElem?_eq_some_iff.1 hb).1; omega) b hb)]
theorem c61 (l : List Bun) (g : Nat) (cs : List AV) (hcp : AV.pureL cs = true) (q : Bun → Prop) (hf : ∀ n, n ∈ l → PC Tryz.prog g [.agg (encB n), .pp cs] (.bool (decide (q n)))) : PC Tryz.prog 61 [.lst false 3 (l.map encB), .fn g [.pp cs]] (.bool (decide (∃ n, n ∈ l ∧ q n))) := by
  have hfz := frzL_self [] cs hcp
  refine PC.body Tryz.func61 (by kernel_rfl) rfl (by simp [Tryz.f61]) rfl ?_
  simp only [Tryz.f61]
  intro hlen
  simp only [go_sem, List.length_map, and_true, true_and] at hlen
  refine CV.run ?_
  (repeat' (first | ((with_reducible first | refine vcG_split ?_ ?_ | refine vcIf_split ?_ ?_ | refine vcQ_split ?_ ?_ | refine vcDG_split ?_ ?_) <;> intro hb <;> (try rw [hb]) <;> (try simp only [bq, bz, dtrue, dfalse] at hb) <;> (try simp only [within] at hb) <;> try (simp only [go_sem, hfz])) | refine And.intro (by first | exact trivial | omega | (simp only [I64]; omega)) ?_ | ((with_reducible first | refine vp (c92 l g cs hcp q hf) ?_ ?_); focus (first | exact ⟨rfl, .inl ⟨by first | rfl | simp only [go_sem, hfz, AV.pureL, AV.pure], by first | (simp only [go_sem, hfz]; done) | rfl⟩⟩ | exact ⟨rfl, .inr ⟨rfl, by simp only [go_sem, hfz]⟩⟩)) | (simp only [go_sem, hfz])))
  exact bd ix_ge
set_option maxHeartbeats 1000000 in
theorem c57 (h : House) : PC Tryz.prog 57 [hG h] (.int .i64 (checkG h)) := by
  have h64 := c58 h.ts 86 [.fn 84 []] rfl (fun n => ¬ within n 0 99) fun n _ => (c86 n).dec
  have h66 := c87 h.ms 88 [.fn 84 []] rfl (fun m => ¬ okMa m) fun m _ => (c88 m).dec
  have h68 := c61 h.bs 89 (cG h) rfl (fun b => ¬ okBu h b) fun b _ => (c89 h b).dec
  refine PC.body Tryz.func57 (by kernel_rfl) rfl (by simp [Tryz.f57]) rfl ?_
  simp only [Tryz.f57]
  intro hlen
  simp only [go_sem, List.length_map, and_true, true_and] at hlen
  refine CV.run ?_
  (repeat' (first | ((with_reducible first | refine vcG_split ?_ ?_ | refine vcIf_split ?_ ?_ | refine vcQ_split ?_ ?_ | refine vcDG_split ?_ ?_) <;> intro hb <;> (try rw [hb]) <;> (try simp only [bq, bz, dtrue, dfalse] at hb) <;> (try simp only [within] at hb) <;> try (simp only [go_sem])) | refine And.intro (by first | exact trivial | omega | (simp only [I64]; omega)) ?_ | ((with_reducible first | refine vp (c85 _ _ _) ?_ ?_ | refine vp h64 ?_ ?_ | refine vp h66 ?_ ?_ | refine vp h68 ?_ ?_); focus (first | exact ⟨rfl, .inl ⟨by first | rfl | simp only [go_sem, AV.pureL, AV.pure], by first | (simp only [go_sem]; done) | rfl⟩⟩ | exact ⟨rfl, .inr ⟨rfl, by simp only [go_sem]⟩⟩)) | (simp only [go_sem])))
  all_goals try exact ckG4 (not_okG (by unfold within; omega))
  · obtain ⟨n, h1, h2⟩ := hb
    exact ckG4 fun q => h2 (q.2.2.2.2.2.2.1 n h1)
  · obtain ⟨n, h1, h2⟩ := hb
    exact ckG4 fun q => h2 (q.2.2.2.2.2.1 n h1)
  · obtain ⟨n, h1, h2⟩ := hb
    exact ckG4 fun q => h2 (q.2.2.2.2.2.2.2 n h1)
  · rename_i a1 a2 a3 a4 a5 a6
    exact ckG0 ⟨by omega, by omega, by omega, by omega, a4, fun n hn => Classical.byContradiction fun h => a6 ⟨n, hn, h⟩, fun n hn => Classical.byContradiction fun h => a5 ⟨n, hn, h⟩, fun n hn => Classical.byContradiction fun h => hb ⟨n, hn, h⟩⟩
end Go.Proofs.YtoadkchhimojlaaGreat

