/- Contracts of functions of the given program, without a condition beyond those that each theorem states; they lead to the given statement. -/
import Derived.Test.YtoadkchhimojlaaK01i
set_option linter.unusedSimpArgs false
set_option linter.unusedVariables false
set_option maxRecDepth 100000
namespace Go.Proofs.Ytoadkchhimojlaa
open Go Go.Fl
open Classical
def sK01j_f54_5 : List (Nat × Nat) := [(0, 0), (0, 0), (0, 0), (0, 0), (0, 0), (0, 0)]
theorem c108L {σ : Type} (h : House) (hk : okG h) (b l : Nat) (nt0 : Nat) (ps : Array Tmp) (assign body : Code) (env0 : Env) (HC0 : σ → Heap) (cd : σ → Code) (st : σ → Int → σ × Bool) (hlen : ∀ s, (HC0 s).length + 1 = b) (hbel : ∀ s, belowH b (HC0 s)) (hbe : belowE b env0)
    (hy : ∀ s n own LB, LB = .loop l nt0 ps assign body env0 → (own = [] ∨ ∃ m, own = [.box 62 (encM m) false]) → HCY Try.prog l [.int .i64 n] (HC0 s ++ LB :: own) fun r H2 => r = .bool (st s n).2 ∧ H2 = HC0 (st s n).1 ++ (if (st s n).2 = true then LB else .lpe l (cd (st s n).1)) :: own) (s : σ) :
    HCH Try.prog 108 [.yld l, .pp (cG h)] (HC0 s ++ [.loop l nt0 ps assign body env0]) fun r H' => ∃ rest, H' = HC0 (runC st s (casesG h)).1 ++ (if (runC st s (casesG h)).2 = true then .loop l nt0 ps assign body env0 else .lpe l (cd (runC st s (casesG h)).1)) :: rest := by
  have happ : ∀ (A B : Heap), belowH b A → belowH b B → belowH b (A ++ B) := by
    intro A B ha hb
    induction A with
    | nil => exact hb
    | cons x A ih => exact ⟨ha.1, ih ha.2⟩
  have := c108 h hk b l (fun x : σ × Bool => HC0 x.1 ++ [if x.2 = true then .loop l nt0 ps assign body env0 else .lpe l (cd x.1)]) (fun x => x.2 = true) (fun x a => (((st x.1 a).1, (st x.1 a).2), (st x.1 a).2))
    (fun x => by have := hlen x.1; simpa using this) (fun x => happ _ _ (hbel _) ⟨by split <;> first | exact hbe | trivial, trivial⟩) (fun x p _ h => h) (fun x n own ha ho => by
      obtain ⟨s, a⟩ := x
      have ha : a = true := ha
      subst ha
      have := hy s n own _ rfl ho
      simp only [List.append_assoc, List.cons_append, List.nil_append, if_true]
      exact this) (s, true) rfl
  refine (this.mono ?_)
  rintro r H' ⟨rest, rfl⟩
  rw [runC_al]
  exact ⟨rest, by simp⟩
theorem belowL_encM {n : Nat} {m : Mach} : belowL n (encM m) = true := rfl
attribute [go_sem] belowL_encM
def butN (h : House) (but : Int) (p : List (List Int)) : Nat := (ltG h (rdy h (tim h p))).toNat &&& (18446744073709551615 - but.toNat)
def stB (h : House) (but : Int) (_ : Unit) (p : List (List Int)) : Unit × Bool := ((), !(butN h but p == 0))
def canG (h : House) (but stop : Int) : Bool := !(runC (stB h but) () (plansG h stop)).2
def stC (h : House) (but : Int) (_ : Unit) (stop : Int) : Unit × Bool := ((), canG h but stop)
def sureG (h : House) (but : Int) : Bool := (runC (stC h but) () (casesG h)).2
set_option maxHeartbeats 4000000 in
theorem c54 (h : House) (hk : okG h) (but : Int) (b0 : 0 ≤ but) (b1 : but < 16) : PC Try.prog 54 [hG h, .int .u64 but] (.bool (sureG h but)) := by
  obtain ⟨k1, k2, k3, k4, k5, k6, k7, k8⟩ := id hk
  have u0 : U64 but = True := eq_true (by unfold U64; omega)
  refine PC.body Try.func54 (by kernel_rfl) rfl (by simp [Try.f54]) rfl ?_
  simp only [Try.f54]
  intro hlen
  simp only [go_sem, List.length_map, and_true, true_and] at hlen
  refine CV.run ?_
  (repeat' (first | ((with_reducible first | refine vcG_split ?_ ?_ | refine vcIf_split ?_ ?_ | refine vcQ_split ?_ ?_ | refine vcDG_split ?_ ?_) <;> intro hb <;> (try rw [hb]) <;> (try simp only [bq, bz, dtrue, dfalse] at hb) <;> (try simp only [within] at hb) <;> try (simp only [go_sem])) | refine And.intro (by first | exact trivial | omega | (simp only [I64]; omega)) ?_ | (with_reducible rw [vc_draw_eq]; first | (refine CV.draw (id := 5) sK01j_f54_5 mixed rfl (by kernel_rfl) ?_; delta sK01j_f54_5)) | (simp only [go_sem])))
  refine vc_scope (fun l st => Ret.noGoto l st) ?_
  (repeat' (first | ((with_reducible first | refine vcG_split ?_ ?_ | refine vcIf_split ?_ ?_ | refine vcQ_split ?_ ?_ | refine vcDG_split ?_ ?_) <;> intro hb <;> (try rw [hb]) <;> (try simp only [bq, bz, dtrue, dfalse] at hb) <;> (try simp only [within] at hb) <;> try (simp only [go_sem])) | refine And.intro (by first | exact trivial | omega | (simp only [I64]; omega)) ?_ | (with_reducible rw [vc_draw_eq]; first | (refine CV.draw (id := 5) sK01j_f54_5 mixed rfl (by kernel_rfl) ?_; delta sK01j_f54_5)) | (simp only [go_sem])))
  refine vc_label ?_
  (repeat' (first | ((with_reducible first | refine vcG_split ?_ ?_ | refine vcIf_split ?_ ?_ | refine vcQ_split ?_ ?_ | refine vcDG_split ?_ ?_) <;> intro hb <;> (try rw [hb]) <;> (try simp only [bq, bz, dtrue, dfalse] at hb) <;> (try simp only [within] at hb) <;> try (simp only [go_sem])) | refine And.intro (by first | exact trivial | omega | (simp only [I64]; omega)) ?_ | (with_reducible rw [vc_draw_eq]; first | (refine CV.draw (id := 5) sK01j_f54_5 mixed rfl (by kernel_rfl) ?_; delta sK01j_f54_5)) | ((with_reducible first | refine vp (c79 h) ?_ ?_ | refine dc (c79 h) ?_ ?_); focus (first | exact ⟨rfl, .inl ⟨by first | rfl | simp only [go_sem, AV.pureL, AV.pure], by first | (simp only [go_sem]; done) | rfl⟩⟩ | exact ⟨rfl, .inr ⟨rfl, by simp only [go_sem]⟩⟩)) | ((with_reducible first | refine dp (c79 h) ?_ ?_); focus exact ⟨rfl, by first | rfl | simp only [go_sem, AV.pureL, AV.pure], by first | (simp only [go_sem]; done) | rfl⟩) | ((with_reducible first | refine ds (c79 h) ?_ ?_); focus exact ⟨rfl, rfl⟩) | (simp only [go_sem])))
  rw [vc_range_eq]
  refine CV.rangeG rfl (Nat.zero_le _) (fun l => ?_)
  refine (c108L h hk 4 l _ _ _ _ _ (fun _ : Unit => [.box 30 (cG h) false, .box 103 [.int .u64 but] false, .box 4 [.bool false] false]) (fun _ => .ret) (stC h but) (fun _ => rfl) (fun _ => by (simp only [go_sem, belowH])) (by (simp only [go_sem])) (fun s n own LB hLB hown => ?_) ()).mono ?_
  · rcases hown with rfl | ⟨m0, rfl⟩
    · refine HCY.bodyL (n := 3) hLB rfl rfl (by simp) ?_
      clear hLB
      (repeat' (first | ((with_reducible first | refine vcG_split ?_ ?_ | refine vcIf_split ?_ ?_ | refine vcQ_split ?_ ?_ | refine vcDG_split ?_ ?_) <;> intro hb <;> (try rw [hb]) <;> (try simp only [bq, bz, dtrue, dfalse] at hb) <;> (try simp only [within] at hb) <;> try (simp only [go_sem, putPs, List.cons_append, List.nil_append])) | refine And.intro (by first | exact trivial | omega | (simp only [I64]; omega)) ?_ | (with_reducible rw [vc_draw_eq]; first | (refine CV.draw (id := 5) sK01j_f54_5 mixed rfl (by kernel_rfl) ?_; delta sK01j_f54_5)) | ((with_reducible first | refine vp (c71 h n) ?_ ?_ | refine dc (c71 h n) ?_ ?_); focus (first | exact ⟨rfl, .inl ⟨by first | rfl | simp only [go_sem, putPs, List.cons_append, List.nil_append, AV.pureL, AV.pure], by first | (simp only [go_sem, putPs, List.cons_append, List.nil_append]; done) | rfl⟩⟩ | exact ⟨rfl, .inr ⟨rfl, by simp only [go_sem, putPs, List.cons_append, List.nil_append]⟩⟩)) | ((with_reducible first | refine dp (c71 h n) ?_ ?_); focus exact ⟨rfl, by first | rfl | simp only [go_sem, putPs, List.cons_append, List.nil_append, AV.pureL, AV.pure], by first | (simp only [go_sem, putPs, List.cons_append, List.nil_append]; done) | rfl⟩) | ((with_reducible first | refine ds (c71 h n) ?_ ?_); focus exact ⟨rfl, rfl⟩) | (simp only [go_sem, putPs, List.cons_append, List.nil_append])))
      rw [vc_range_eq]
      refine CV.rangeG rfl (Nat.le_refl _) (fun l2 => ?_)
      refine (c93L h hk 5 l2 n _ _ _ _ _ (fun _ : Unit => [.box 30 (cG h) false, .box 103 [.int .u64 but] false, .box 4 [.bool false] false, .gone]) (fun _ => .exit 1) (stB h but) (fun _ => rfl) (fun s p j g LB2 hLB2 hq => ?_) ()).mono ?_
      · refine HCY.bodyL (n := 4) hLB2 rfl rfl (by simp) ?_
        clear hLB2
        have hbr : belowB (h.ms.length + 10) (.row 24 1 ((List.range h.ms.length).map (rowE 5 p g)) false) = True := belowB_rowE (by omega)
        have hltk : ∀ c : Nat, c < 10 → (c < h.ms.length + 10) = True := fun c hc => eq_true (by omega)
        have h73 := c73 h hk (rdy h (tim h p)) (rdy_len _ _)
        obtain ⟨l0, l1⟩ := lt_bd hk (rdy h (tim h p))
        have u1 : U64 (ltG h (rdy h (tim h p))) = True := eq_true (by unfold U64; omega)
        have htk : List.take 4 (List.map I (rdy h (tim h p))) = List.map I (rdy h (tim h p)) := List.take_of_length_le (by simp [rdy_len])
        have hbn : (((ltG h (rdy h (tim h p))).toNat &&& (18446744073709551615 - but.toNat) : Nat) : Int) = (butN h but p : Int) := rfl
        (repeat' (first | ((with_reducible first | refine vcG_split ?_ ?_ | refine vcIf_split ?_ ?_ | refine vcQ_split ?_ ?_ | refine vcDG_split ?_ ?_) <;> intro hb <;> (try rw [hb]) <;> (try simp only [bq, bz, dtrue, dfalse] at hb) <;> (try simp only [within] at hb) <;> try (simp only [go_sem, putPs, List.cons_append, List.nil_append, allOne_mapI, rdy_len, List.length_map, List.length_range, tg0, tg1, ts0, ts1, htk, u0, u1, hbn, Nat.add_assoc, List.drop_succ_cons, List.drop_zero, List.append_assoc, List.append_nil])) | refine And.intro (by first | exact trivial | omega | (simp only [I64]; omega)) ?_ | (with_reducible rw [vc_draw_eq]; first | (refine CV.draw (id := 5) sK01j_f54_5 mixed rfl (by kernel_rfl) ?_; delta sK01j_f54_5)) | ((with_reducible first | refine vp h73 ?_ ?_ | refine dc h73 ?_ ?_); focus (first | exact ⟨rfl, .inl ⟨by first | rfl | simp only [go_sem, putPs, List.cons_append, List.nil_append, allOne_mapI, rdy_len, List.length_map, List.length_range, tg0, tg1, ts0, ts1, htk, u0, u1, hbn, Nat.add_assoc, List.drop_succ_cons, List.drop_zero, List.append_assoc, List.append_nil, AV.pureL, AV.pure], by first | (simp only [go_sem, putPs, List.cons_append, List.nil_append, allOne_mapI, rdy_len, List.length_map, List.length_range, tg0, tg1, ts0, ts1, htk, u0, u1, hbn, Nat.add_assoc, List.drop_succ_cons, List.drop_zero, List.append_assoc, List.append_nil]; done) | rfl⟩⟩ | exact ⟨rfl, .inr ⟨rfl, by simp only [go_sem, putPs, List.cons_append, List.nil_append, allOne_mapI, rdy_len, List.length_map, List.length_range, tg0, tg1, ts0, ts1, htk, u0, u1, hbn, Nat.add_assoc, List.drop_succ_cons, List.drop_zero, List.append_assoc, List.append_nil]⟩⟩)) | ((with_reducible first | refine dp h73 ?_ ?_); focus exact ⟨rfl, by first | rfl | simp only [go_sem, putPs, List.cons_append, List.nil_append, allOne_mapI, rdy_len, List.length_map, List.length_range, tg0, tg1, ts0, ts1, htk, u0, u1, hbn, Nat.add_assoc, List.drop_succ_cons, List.drop_zero, List.append_assoc, List.append_nil, AV.pureL, AV.pure], by first | (simp only [go_sem, putPs, List.cons_append, List.nil_append, allOne_mapI, rdy_len, List.length_map, List.length_range, tg0, tg1, ts0, ts1, htk, u0, u1, hbn, Nat.add_assoc, List.drop_succ_cons, List.drop_zero, List.append_assoc, List.append_nil]; done) | rfl⟩) | ((with_reducible first | refine ds h73 ?_ ?_); focus exact ⟨rfl, rfl⟩) | (simp only [go_sem, putPs, List.cons_append, List.nil_append, allOne_mapI, rdy_len, List.length_map, List.length_range, tg0, tg1, ts0, ts1, htk, u0, u1, hbn, Nat.add_assoc, List.drop_succ_cons, List.drop_zero, List.append_assoc, List.append_nil])))
        · have e0 : butN h but p = 0 := by omega
          have e1 : stB h but s p = ((), false) := by simp [stB, e0]
          refine RBL.ex ([.box 30 (cG h) false, .box 103 [.int .u64 but] false, .box 4 [.bool false] false, .gone] ++ .gone :: ownP 5 l2 h n p j g) (.base (by (first | exact wk_same (by (simp only [go_sem, Int.natCast_add, cn, Int.cast_ofNat_Int, pfx_app, pfx, belowH, hbr, hltk, belowB_gone, belowH_rgE, Nat.add_assoc, List.length_map, List.length_range])) | (refine wk_drop ?_ ?_ ?_ ?_ ?_ <;> (simp only [go_sem, Int.natCast_add, cn, Int.cast_ofNat_Int, pfx_app, pfx, belowH, hbr, hltk, belowB_gone, belowH_rgE, Nat.add_assoc, List.length_map, List.length_range]))))) rfl ?_
          rw [e1]; exact ⟨rfl, rfl⟩
        · have e0 : butN h but p ≠ 0 := fun e => hb (by rw [e]; rfl)
          have e1 : stB h but s p = ((), true) := by simp [stB, e0]
          refine RBL.nm ([.box 30 (cG h) false, .box 103 [.int .u64 but] false, .box 4 [.bool false] false, .gone] ++ .gone :: ownP 5 l2 h n p j g) (.base (by (first | exact wk_same (by (simp only [go_sem, Int.natCast_add, cn, Int.cast_ofNat_Int, pfx_app, pfx, belowH, hbr, hltk, belowB_gone, belowH_rgE, Nat.add_assoc, List.length_map, List.length_range])) | (refine wk_drop ?_ ?_ ?_ ?_ ?_ <;> (simp only [go_sem, Int.natCast_add, cn, Int.cast_ofNat_Int, pfx_app, pfx, belowH, hbr, hltk, belowB_gone, belowH_rgE, Nat.add_assoc, List.length_map, List.length_range]))))) rfl ?_
          rw [e1]; exact ⟨rfl, rfl⟩
      · rintro r H' ⟨rest, rfl⟩
        refine ⟨_, _, rest, rfl, rfl, by (simp only [go_sem, belowH, belowB_gone]), by (simp only [go_sem]), ?_⟩
        cases hR : (runC (stB h but) () (plansG h n)).2 with
        | true =>
          rw [if_pos rfl]
          have e1 : stC h but s n = ((), false) := by simp [stC, canG, hR]
          refine .inl ⟨rfl, ?_⟩
          (repeat' (first | ((with_reducible first | refine vcG_split ?_ ?_ | refine vcIf_split ?_ ?_ | refine vcQ_split ?_ ?_ | refine vcDG_split ?_ ?_) <;> intro hb <;> (try rw [hb]) <;> (try simp only [bq, bz, dtrue, dfalse] at hb) <;> (try simp only [within] at hb) <;> try (simp only [go_sem])) | refine And.intro (by first | exact trivial | omega | (simp only [I64]; omega)) ?_ | (with_reducible rw [vc_draw_eq]; first | (refine CV.draw (id := 5) sK01j_f54_5 mixed rfl (by kernel_rfl) ?_; delta sK01j_f54_5)) | (simp only [go_sem])))
          refine RBL.rt [.box 30 (cG h) false, .box 103 [.int .u64 but] false, .box 4 [.bool false] false, .gone] (.base (by (first | exact wk_same (by (simp only [go_sem, Int.natCast_add, cn, Int.cast_ofNat_Int])) | (refine wk_drop ?_ ?_ ?_ ?_ ?_ <;> (simp only [go_sem, Int.natCast_add, cn, Int.cast_ofNat_Int]))))) rfl ?_
          rw [e1]; exact ⟨rfl, rfl⟩
        | false =>
          rw [if_neg (by simp)]
          have e1 : stC h but s n = ((), true) := by simp [stC, canG, hR]
          refine .inr ⟨_, rfl, ?_⟩
          (repeat' (first | ((with_reducible first | refine vcG_split ?_ ?_ | refine vcIf_split ?_ ?_ | refine vcQ_split ?_ ?_ | refine vcDG_split ?_ ?_) <;> intro hb <;> (try rw [hb]) <;> (try simp only [bq, bz, dtrue, dfalse] at hb) <;> (try simp only [within] at hb) <;> try (simp only [go_sem])) | refine And.intro (by first | exact trivial | omega | (simp only [I64]; omega)) ?_ | (with_reducible rw [vc_draw_eq]; first | (refine CV.draw (id := 5) sK01j_f54_5 mixed rfl (by kernel_rfl) ?_; delta sK01j_f54_5)) | (simp only [go_sem])))
          refine RBL.nm [.box 30 (cG h) false, .box 103 [.int .u64 but] false, .box 4 [.bool false] false, .gone] (.base (by (first | exact wk_same (by (simp only [go_sem, Int.natCast_add, cn, Int.cast_ofNat_Int])) | (refine wk_drop ?_ ?_ ?_ ?_ ?_ <;> (simp only [go_sem, Int.natCast_add, cn, Int.cast_ofNat_Int]))))) rfl ?_
          rw [e1]; exact ⟨rfl, rfl⟩
    · refine HCY.bodyL (n := 3) hLB rfl rfl (by simp) ?_
      clear hLB
      (repeat' (first | ((with_reducible first | refine vcG_split ?_ ?_ | refine vcIf_split ?_ ?_ | refine vcQ_split ?_ ?_ | refine vcDG_split ?_ ?_) <;> intro hb <;> (try rw [hb]) <;> (try simp only [bq, bz, dtrue, dfalse] at hb) <;> (try simp only [within] at hb) <;> try (simp only [go_sem, putPs, List.cons_append, List.nil_append])) | refine And.intro (by first | exact trivial | omega | (simp only [I64]; omega)) ?_ | (with_reducible rw [vc_draw_eq]; first | (refine CV.draw (id := 5) sK01j_f54_5 mixed rfl (by kernel_rfl) ?_; delta sK01j_f54_5)) | ((with_reducible first | refine vp (c71 h n) ?_ ?_ | refine dc (c71 h n) ?_ ?_); focus (first | exact ⟨rfl, .inl ⟨by first | rfl | simp only [go_sem, putPs, List.cons_append, List.nil_append, AV.pureL, AV.pure], by first | (simp only [go_sem, putPs, List.cons_append, List.nil_append]; done) | rfl⟩⟩ | exact ⟨rfl, .inr ⟨rfl, by simp only [go_sem, putPs, List.cons_append, List.nil_append]⟩⟩)) | ((with_reducible first | refine dp (c71 h n) ?_ ?_); focus exact ⟨rfl, by first | rfl | simp only [go_sem, putPs, List.cons_append, List.nil_append, AV.pureL, AV.pure], by first | (simp only [go_sem, putPs, List.cons_append, List.nil_append]; done) | rfl⟩) | ((with_reducible first | refine ds (c71 h n) ?_ ?_); focus exact ⟨rfl, rfl⟩) | (simp only [go_sem, putPs, List.cons_append, List.nil_append])))
      rw [vc_range_eq]
      refine CV.rangeG rfl (Nat.le_refl _) (fun l2 => ?_)
      refine (c93L h hk 6 l2 n _ _ _ _ _ (fun _ : Unit => [.box 30 (cG h) false, .box 103 [.int .u64 but] false, .box 4 [.bool false] false, .gone, .box 62 (encM m0) false]) (fun _ => .exit 1) (stB h but) (fun _ => rfl) (fun s p j g LB2 hLB2 hq => ?_) ()).mono ?_
      · refine HCY.bodyL (n := 5) hLB2 rfl rfl (by simp) ?_
        clear hLB2
        have hbr : belowB (h.ms.length + 11) (.row 24 1 ((List.range h.ms.length).map (rowE 6 p g)) false) = True := belowB_rowE (by omega)
        have hltk : ∀ c : Nat, c < 11 → (c < h.ms.length + 11) = True := fun c hc => eq_true (by omega)
        have h73 := c73 h hk (rdy h (tim h p)) (rdy_len _ _)
        obtain ⟨l0, l1⟩ := lt_bd hk (rdy h (tim h p))
        have u1 : U64 (ltG h (rdy h (tim h p))) = True := eq_true (by unfold U64; omega)
        have htk : List.take 4 (List.map I (rdy h (tim h p))) = List.map I (rdy h (tim h p)) := List.take_of_length_le (by simp [rdy_len])
        have hbn : (((ltG h (rdy h (tim h p))).toNat &&& (18446744073709551615 - but.toNat) : Nat) : Int) = (butN h but p : Int) := rfl
        (repeat' (first | ((with_reducible first | refine vcG_split ?_ ?_ | refine vcIf_split ?_ ?_ | refine vcQ_split ?_ ?_ | refine vcDG_split ?_ ?_) <;> intro hb <;> (try rw [hb]) <;> (try simp only [bq, bz, dtrue, dfalse] at hb) <;> (try simp only [within] at hb) <;> try (simp only [go_sem, putPs, List.cons_append, List.nil_append, allOne_mapI, rdy_len, List.length_map, List.length_range, tg0, tg1, ts0, ts1, htk, u0, u1, hbn, Nat.add_assoc, List.drop_succ_cons, List.drop_zero, List.append_assoc, List.append_nil])) | refine And.intro (by first | exact trivial | omega | (simp only [I64]; omega)) ?_ | (with_reducible rw [vc_draw_eq]; first | (refine CV.draw (id := 5) sK01j_f54_5 mixed rfl (by kernel_rfl) ?_; delta sK01j_f54_5)) | ((with_reducible first | refine vp h73 ?_ ?_ | refine dc h73 ?_ ?_); focus (first | exact ⟨rfl, .inl ⟨by first | rfl | simp only [go_sem, putPs, List.cons_append, List.nil_append, allOne_mapI, rdy_len, List.length_map, List.length_range, tg0, tg1, ts0, ts1, htk, u0, u1, hbn, Nat.add_assoc, List.drop_succ_cons, List.drop_zero, List.append_assoc, List.append_nil, AV.pureL, AV.pure], by first | (simp only [go_sem, putPs, List.cons_append, List.nil_append, allOne_mapI, rdy_len, List.length_map, List.length_range, tg0, tg1, ts0, ts1, htk, u0, u1, hbn, Nat.add_assoc, List.drop_succ_cons, List.drop_zero, List.append_assoc, List.append_nil]; done) | rfl⟩⟩ | exact ⟨rfl, .inr ⟨rfl, by simp only [go_sem, putPs, List.cons_append, List.nil_append, allOne_mapI, rdy_len, List.length_map, List.length_range, tg0, tg1, ts0, ts1, htk, u0, u1, hbn, Nat.add_assoc, List.drop_succ_cons, List.drop_zero, List.append_assoc, List.append_nil]⟩⟩)) | ((with_reducible first | refine dp h73 ?_ ?_); focus exact ⟨rfl, by first | rfl | simp only [go_sem, putPs, List.cons_append, List.nil_append, allOne_mapI, rdy_len, List.length_map, List.length_range, tg0, tg1, ts0, ts1, htk, u0, u1, hbn, Nat.add_assoc, List.drop_succ_cons, List.drop_zero, List.append_assoc, List.append_nil, AV.pureL, AV.pure], by first | (simp only [go_sem, putPs, List.cons_append, List.nil_append, allOne_mapI, rdy_len, List.length_map, List.length_range, tg0, tg1, ts0, ts1, htk, u0, u1, hbn, Nat.add_assoc, List.drop_succ_cons, List.drop_zero, List.append_assoc, List.append_nil]; done) | rfl⟩) | ((with_reducible first | refine ds h73 ?_ ?_); focus exact ⟨rfl, rfl⟩) | (simp only [go_sem, putPs, List.cons_append, List.nil_append, allOne_mapI, rdy_len, List.length_map, List.length_range, tg0, tg1, ts0, ts1, htk, u0, u1, hbn, Nat.add_assoc, List.drop_succ_cons, List.drop_zero, List.append_assoc, List.append_nil])))
        · have e0 : butN h but p = 0 := by omega
          have e1 : stB h but s p = ((), false) := by simp [stB, e0]
          refine RBL.ex ([.box 30 (cG h) false, .box 103 [.int .u64 but] false, .box 4 [.bool false] false, .gone, .box 62 (encM m0) false] ++ .gone :: ownP 6 l2 h n p j g) (.base (by (first | exact wk_same (by (simp only [go_sem, Int.natCast_add, cn, Int.cast_ofNat_Int, pfx_app, pfx, belowH, hbr, hltk, belowB_gone, belowH_rgE, Nat.add_assoc, List.length_map, List.length_range])) | (refine wk_drop ?_ ?_ ?_ ?_ ?_ <;> (simp only [go_sem, Int.natCast_add, cn, Int.cast_ofNat_Int, pfx_app, pfx, belowH, hbr, hltk, belowB_gone, belowH_rgE, Nat.add_assoc, List.length_map, List.length_range]))))) rfl ?_
          rw [e1]; exact ⟨rfl, rfl⟩
        · have e0 : butN h but p ≠ 0 := fun e => hb (by rw [e]; rfl)
          have e1 : stB h but s p = ((), true) := by simp [stB, e0]
          refine RBL.nm ([.box 30 (cG h) false, .box 103 [.int .u64 but] false, .box 4 [.bool false] false, .gone, .box 62 (encM m0) false] ++ .gone :: ownP 6 l2 h n p j g) (.base (by (first | exact wk_same (by (simp only [go_sem, Int.natCast_add, cn, Int.cast_ofNat_Int, pfx_app, pfx, belowH, hbr, hltk, belowB_gone, belowH_rgE, Nat.add_assoc, List.length_map, List.length_range])) | (refine wk_drop ?_ ?_ ?_ ?_ ?_ <;> (simp only [go_sem, Int.natCast_add, cn, Int.cast_ofNat_Int, pfx_app, pfx, belowH, hbr, hltk, belowB_gone, belowH_rgE, Nat.add_assoc, List.length_map, List.length_range]))))) rfl ?_
          rw [e1]; exact ⟨rfl, rfl⟩
      · rintro r H' ⟨rest, rfl⟩
        refine ⟨_, _, rest, rfl, rfl, by (simp only [go_sem, belowH, belowB_gone]), by (simp only [go_sem]), ?_⟩
        cases hR : (runC (stB h but) () (plansG h n)).2 with
        | true =>
          rw [if_pos rfl]
          have e1 : stC h but s n = ((), false) := by simp [stC, canG, hR]
          refine .inl ⟨rfl, ?_⟩
          (repeat' (first | ((with_reducible first | refine vcG_split ?_ ?_ | refine vcIf_split ?_ ?_ | refine vcQ_split ?_ ?_ | refine vcDG_split ?_ ?_) <;> intro hb <;> (try rw [hb]) <;> (try simp only [bq, bz, dtrue, dfalse] at hb) <;> (try simp only [within] at hb) <;> try (simp only [go_sem])) | refine And.intro (by first | exact trivial | omega | (simp only [I64]; omega)) ?_ | (with_reducible rw [vc_draw_eq]; first | (refine CV.draw (id := 5) sK01j_f54_5 mixed rfl (by kernel_rfl) ?_; delta sK01j_f54_5)) | (simp only [go_sem])))
          refine RBL.rt [.box 30 (cG h) false, .box 103 [.int .u64 but] false, .box 4 [.bool false] false, .gone, .box 62 (encM m0) false] (.base (by (first | exact wk_same (by (simp only [go_sem, Int.natCast_add, cn, Int.cast_ofNat_Int])) | (refine wk_drop ?_ ?_ ?_ ?_ ?_ <;> (simp only [go_sem, Int.natCast_add, cn, Int.cast_ofNat_Int]))))) rfl ?_
          rw [e1]; exact ⟨rfl, rfl⟩
        | false =>
          rw [if_neg (by simp)]
          have e1 : stC h but s n = ((), true) := by simp [stC, canG, hR]
          refine .inr ⟨_, rfl, ?_⟩
          (repeat' (first | ((with_reducible first | refine vcG_split ?_ ?_ | refine vcIf_split ?_ ?_ | refine vcQ_split ?_ ?_ | refine vcDG_split ?_ ?_) <;> intro hb <;> (try rw [hb]) <;> (try simp only [bq, bz, dtrue, dfalse] at hb) <;> (try simp only [within] at hb) <;> try (simp only [go_sem])) | refine And.intro (by first | exact trivial | omega | (simp only [I64]; omega)) ?_ | (with_reducible rw [vc_draw_eq]; first | (refine CV.draw (id := 5) sK01j_f54_5 mixed rfl (by kernel_rfl) ?_; delta sK01j_f54_5)) | (simp only [go_sem])))
          refine RBL.nm [.box 30 (cG h) false, .box 103 [.int .u64 but] false, .box 4 [.bool false] false, .gone, .box 62 (encM m0) false] (.base (by (first | exact wk_same (by (simp only [go_sem, Int.natCast_add, cn, Int.cast_ofNat_Int])) | (refine wk_drop ?_ ?_ ?_ ?_ ?_ <;> (simp only [go_sem, Int.natCast_add, cn, Int.cast_ofNat_Int]))))) rfl ?_
          rw [e1]; exact ⟨rfl, rfl⟩
  · rintro r H' ⟨rest, rfl⟩
    refine ⟨_, _, rest, rfl, rfl, by (simp only [go_sem, belowH]), by (simp only [go_sem]), ?_⟩
    unfold sureG
    cases hR : (runC (stC h but) () (casesG h)).2 with
    | true =>
      rw [if_pos rfl]
      refine .inl ⟨rfl, ?_⟩
      (repeat' (first | ((with_reducible first | refine vcG_split ?_ ?_ | refine vcIf_split ?_ ?_ | refine vcQ_split ?_ ?_ | refine vcDG_split ?_ ?_) <;> intro hb <;> (try rw [hb]) <;> (try simp only [bq, bz, dtrue, dfalse] at hb) <;> (try simp only [within] at hb) <;> try (simp only [go_sem])) | refine And.intro (by first | exact trivial | omega | (simp only [I64]; omega)) ?_ | (with_reducible rw [vc_draw_eq]; first | (refine CV.draw (id := 5) sK01j_f54_5 mixed rfl (by kernel_rfl) ?_; delta sK01j_f54_5)) | (simp only [go_sem])))
    | false =>
      rw [if_neg (by simp)]
      refine .inr ⟨_, rfl, ?_⟩
      (repeat' (first | ((with_reducible first | refine vcG_split ?_ ?_ | refine vcIf_split ?_ ?_ | refine vcQ_split ?_ ?_ | refine vcDG_split ?_ ?_) <;> intro hb <;> (try rw [hb]) <;> (try simp only [bq, bz, dtrue, dfalse] at hb) <;> (try simp only [within] at hb) <;> try (simp only [go_sem])) | refine And.intro (by first | exact trivial | omega | (simp only [I64]; omega)) ?_ | (with_reducible rw [vc_draw_eq]; first | (refine CV.draw (id := 5) sK01j_f54_5 mixed rfl (by kernel_rfl) ?_; delta sK01j_f54_5)) | (simp only [go_sem])))
end Go.Proofs.Ytoadkchhimojlaa

