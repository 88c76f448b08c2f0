/- Contracts of functions of the given program, without a condition beyond those that each theorem states; they lead to the given statement. -/
import Derived.Test.YtoadkchhimojlaaK01g
import Derived.Test.YtoadkchhimojlaaFlC
set_option linter.unusedSimpArgs false
set_option linter.unusedVariables false
set_option maxRecDepth 100000
namespace Go.Proofs.Ytoadkchhimojlaa
open Go Go.Fl
open Classical
def sK01h_f38_11 : List (Nat × Nat) := [(0, 1), (0, 0), (0, 0), (1, 1), (0, 0), (0, 0)]
def sK01h_f38_14 : List (Nat × Nat) := [(0, 0), (0, 1), (0, 0), (0, 0)]
theorem h74 (l : List Int) (hl : l.length ≤ 1000) : HCH Try.prog 74 [lN l] [] fun r H' => r = .row 0 l.length ∧ H' = [.row 3 1 (l.map encN) false] := by
  refine HCH.bodyN Try.func74 (by kernel_rfl) rfl (by simp [Try.f74]) ?_
  simp only [Try.f74]
  refine CV.run ?_
  (repeat' (first | ((with_reducible first | refine vcG_split ?_ ?_ | refine vcIf_split ?_ ?_ | refine vcQ_split ?_ ?_ | refine vcDG_split ?_ ?_) <;> intro hb <;> (try rw [hb]) <;> (try simp only [bq, bz, dtrue, dfalse] at hb) <;> (try simp only [within] at hb) <;> try (simp only [go_sem])) | refine And.intro (by first | exact trivial | omega | (simp only [I64]; omega)) ?_ | (simp only [go_sem])))
  · have : l = [] := by simpa using hb
    subst this
    exact ⟨_, .nilE 2 3 1 (by (simp only [go_sem])) (by omega) (.base (wk_same (env' := [(2, .row 0 0)]) (by (simp only [go_sem])))), rfl, rfl⟩
  · exact ⟨⟨by omega, by omega, .inl trivial⟩, _, .base (wk_same (env' := [(2, .row 0 l.length)]) (by (simp only [go_sem]))), rfl, rfl⟩
def lateN (h : House) (p : List (List Int)) : Int := pop (ltG h (rdy h (tim h p)))
noncomputable def bst (h : House) (s : List (List Int) × Int) (p : List (List Int)) : (List (List Int) × Int) × Bool :=
  if lateN h p < s.2 then ((p, lateN h p), decide (lateN h p ≠ 0)) else (s, decide (s.2 ≠ 0))
noncomputable def bestG (h : House) (stop : Int) : List (List Int) × Int := (runC (bst h) ([], h.ts.length + 1) (plansG h stop)).1
theorem tg0 {f : Nat → Blk} {k : Nat} {l : Heap} : ((List.range k).map f ++ l)[k]? = l[0]? := by
  rw [List.getElem?_append_right (by simp)]; simp
theorem tg1 {f : Nat → Blk} {k : Nat} {l : Heap} : ((List.range k).map f ++ l)[k + 1]? = l[1]? := by
  rw [List.getElem?_append_right (by simp)]; simp
theorem ts0 {f : Nat → Blk} {k : Nat} {l : Heap} {v : Blk} : ((List.range k).map f ++ l).set k v = (List.range k).map f ++ l.set 0 v := by
  rw [List.set_append_right _ _ (by simp)]; simp
theorem ts1 {f : Nat → Blk} {k : Nat} {l : Heap} {v : Blk} : ((List.range k).map f ++ l).set (k + 1) v = (List.range k).map f ++ l.set 1 v := by
  rw [List.set_append_right _ _ (by simp)]; simp
theorem pfx_app : ∀ {a l : Heap}, pfx a (a ++ l) = True
  | [], l => by simp [pfx]
  | x :: a, l => by simp [pfx, pfx_app (a := a)]
theorem belowB_rowE {n b k : Nat} {p : List (List Int)} {g : Nat → Nat} {sl : Bool} (hn : b + 5 + k ≤ n) : belowB n (.row 24 1 ((List.range k).map (rowE b p g)) sl) = True := by
  refine eq_true fun e he => ?_
  obtain ⟨m, hm, rfl⟩ := List.mem_map.1 he
  have := List.mem_range.1 hm
  simp [rowE, belowL, belowV]; omega
theorem belowB_rgE {n : Nat} {p : List (List Int)} {j : Nat → List Int} {g : Nat → Nat} {m : Nat} : belowB n (rgE p j g m) := fun e he => belowL_pure n _ ((show pureE (List.map encN _) by rw [pureN]; trivial) e he)
theorem belowB_gone {n : Nat} : belowB n .gone = True := rfl
theorem belowH_all {n : Nat} : ∀ {H : Heap}, (∀ x ∈ H, belowB n x) → belowH n H
  | [], _ => trivial
  | x :: H, h => ⟨h x (by simp), belowH_all fun y hy => h y (by simp [hy])⟩
theorem belowH_rgE {n k : Nat} {p : List (List Int)} {j : Nat → List Int} {g : Nat → Nat} : belowH n ((List.range k).map (rgE p j g)) = True := by
  refine eq_true (belowH_all fun x hx => ?_)
  obtain ⟨m, _, rfl⟩ := List.mem_map.1 hx
  exact belowB_rgE
theorem sub_rowE {c n b k : Nat} {v : AV} {p : List (List Int)} {g : Nat → Nat} : ((List.range k).map (rowE b p g)).map (subL c n v) = (List.range k).map (rowE b p g) := by
  rw [List.map_map]; exact List.map_congr_left fun m _ => by simp [rowE, subL, subV]
theorem sub_rgE {c n k : Nat} {v : AV} {p : List (List Int)} {j : Nat → List Int} {g : Nat → Nat} : ((List.range k).map (rgE p j g)).map (subB c n v) = (List.range k).map (rgE p j g) := by
  rw [List.map_map]; exact List.map_congr_left fun m _ => by simp only [Function.comp, rgE, subB, sub_mapN]
theorem take_succ {α : Type} {l : List α} {j : Nat} {a : α} (h : l[j]? = some a) : l.take (j + 1) = l.take j ++ [a] := by
  rw [List.take_add_one, h]; rfl
theorem wk_eq {m : Nat} {env env' : Env} {H H' : Heap} (hH : H = H') (h : subE env env') : Wk m ⟨env, H⟩ ⟨env', H'⟩ := by subst hH; exact wk_same h
theorem pop_bd {x : Int} (h0 : 0 ≤ x) (h1 : x < 16) : 0 ≤ pop x ∧ pop x ≤ 4 := by unfold pop; omega
theorem lt_bd {h : House} (hk : okG h) (R : List Int) : 0 ≤ ltG h R ∧ ltG h R < 16 := by
  obtain ⟨k1, k2, k3, k4, k5, k6, k7, k8⟩ := hk
  have h1 := ltM_bd h R h.ts.length
  have h2 := pow_bd k3
  unfold ltG
  omega
set_option maxHeartbeats 4000000 in
theorem c38 (h : House) (hk : okG h) (stop : Int) : PC Try.prog 38 [hG h, .int .i64 stop] (.tup [lP (bestG h stop).1, .int .i64 (bestG h stop).2]) := by
  obtain ⟨k1, k2, k3, k4, k5, k6, k7, k8⟩ := id hk
  refine PC.body Try.func38 (by kernel_rfl) rfl (by simp [Try.f38]) rfl ?_
  simp only [Try.f38]
  intro hlen
  simp only [go_sem, List.length_map, and_true, true_and] at hlen
  refine CV.run ?_
  (repeat' (first | ((with_reducible first | refine vcG_split ?_ ?_ | refine vcIf_split ?_ ?_ | refine vcQ_split ?_ ?_ | refine vcDG_split ?_ ?_) <;> intro hb <;> (try rw [hb]) <;> (try simp only [bq, bz, dtrue, dfalse] at hb) <;> (try simp only [within] at hb) <;> try (simp only [go_sem])) | refine And.intro (by first | exact trivial | omega | (simp only [I64]; omega)) ?_ | (with_reducible rw [vc_draw_eq]; first | (refine CV.draw (id := 11) sK01h_f38_11 mixed rfl (by kernel_rfl) ?_; delta sK01h_f38_11) | (refine CV.draw (id := 14) sK01h_f38_14 mixed rfl (by kernel_rfl) ?_; delta sK01h_f38_14)) | ((with_reducible first | refine vp (c71 h stop) ?_ ?_ | refine dc (c71 h stop) ?_ ?_); focus (first | exact ⟨rfl, .inl ⟨by first | rfl | simp only [go_sem, AV.pureL, AV.pure], by first | (simp only [go_sem]; done) | rfl⟩⟩ | exact ⟨rfl, .inr ⟨rfl, by simp only [go_sem]⟩⟩)) | ((with_reducible first | refine dp (c71 h stop) ?_ ?_); focus exact ⟨rfl, by first | rfl | simp only [go_sem, AV.pureL, AV.pure], by first | (simp only [go_sem]; done) | rfl⟩) | ((with_reducible first | refine ds (c71 h stop) ?_ ?_); focus exact ⟨rfl, rfl⟩) | (simp only [go_sem])))
  refine vc_wn vc_range_eq (st' := ⟨[(17, .fn 93 [.pp (cG h), .pp [.int .i64 stop]]), (2, .lp 0 0), (4, .lp 1 0), (5, .lp 2 0)], [.box 30 (cG h) false, .box 23 [lP []] false, .box 3 [.int .i64 (h.ts.length + 1)] false]⟩) (.nilL 1 0 1 rfl rfl (.base (by (first | exact wk_same (by (simp only [go_sem, Int.natCast_add, cn, Int.cast_ofNat_Int])) | (refine wk_drop ?_ ?_ ?_ ?_ ?_ <;> (simp only [go_sem, Int.natCast_add, cn, Int.cast_ofNat_Int])))))) ?_
  refine CV.rangeG rfl (Nat.zero_le _) (fun l => ?_)
  refine (c93L h hk 4 l stop _ _ _ _ _ (fun s => [.box 30 (cG h) false, .box 23 [lP s.1] false, .box 3 [.int .i64 s.2] false]) (fun _ => .exit 0) (bst h) (fun _ => rfl) (fun s p j g LB hLB hq => ?_) ([], h.ts.length + 1)).mono ?_
  · refine HCY.bodyL (n := 3) hLB rfl rfl (by simp) ?_
    have h73 := c73 h hk (rdy h (tim h p)) (rdy_len _ _)
    obtain ⟨l0, l1⟩ := lt_bd hk (rdy h (tim h p))
    have h72 := c72 _ l0 l1
    have htk : List.take 4 (List.map I (rdy h (tim h p))) = List.map I (rdy h (tim h p)) := List.take_of_length_le (by simp [rdy_len])
    clear hLB
    have hbr : belowB (h.ms.length + 9) (.row 24 1 ((List.range h.ms.length).map (rowE 4 p g)) false) = True := belowB_rowE (by omega)
    have hltk : ∀ c : Nat, c < 9 → (c < h.ms.length + 9) = True := fun c hc => eq_true (by omega)
    (repeat' (first | ((with_reducible first | refine vcG_split ?_ ?_ | refine vcIf_split ?_ ?_ | refine vcQ_split ?_ ?_ | refine vcDG_split ?_ ?_) <;> intro hb <;> (try rw [hb]) <;> (try simp only [bq, bz, dtrue, dfalse] at hb) <;> (try simp only [within] at hb) <;> try (simp only [go_sem, putPs, List.cons_append, List.nil_append, allOne_mapI, rdy_len, List.length_map, List.length_range, tg0, tg1, ts0, ts1, htk, List.drop_succ_cons, List.drop_zero, List.append_assoc, List.append_nil])) | refine And.intro (by first | exact trivial | omega | (simp only [I64]; omega)) ?_ | (with_reducible rw [vc_draw_eq]; first | (refine CV.draw (id := 11) sK01h_f38_11 mixed rfl (by kernel_rfl) ?_; delta sK01h_f38_11) | (refine CV.draw (id := 14) sK01h_f38_14 mixed rfl (by kernel_rfl) ?_; delta sK01h_f38_14)) | ((with_reducible first | refine vp h73 ?_ ?_ | refine dc h73 ?_ ?_ | refine vp h72 ?_ ?_ | refine dc h72 ?_ ?_); focus (first | exact ⟨rfl, .inl ⟨by first | rfl | simp only [go_sem, putPs, List.cons_append, List.nil_append, allOne_mapI, rdy_len, List.length_map, List.length_range, tg0, tg1, ts0, ts1, htk, List.drop_succ_cons, List.drop_zero, List.append_assoc, List.append_nil, AV.pureL, AV.pure], by first | (simp only [go_sem, putPs, List.cons_append, List.nil_append, allOne_mapI, rdy_len, List.length_map, List.length_range, tg0, tg1, ts0, ts1, htk, List.drop_succ_cons, List.drop_zero, List.append_assoc, List.append_nil]; done) | rfl⟩⟩ | exact ⟨rfl, .inr ⟨rfl, by simp only [go_sem, putPs, List.cons_append, List.nil_append, allOne_mapI, rdy_len, List.length_map, List.length_range, tg0, tg1, ts0, ts1, htk, List.drop_succ_cons, List.drop_zero, List.append_assoc, List.append_nil]⟩⟩)) | ((with_reducible first | refine dp h73 ?_ ?_ | refine dp h72 ?_ ?_); focus exact ⟨rfl, by first | rfl | simp only [go_sem, putPs, List.cons_append, List.nil_append, allOne_mapI, rdy_len, List.length_map, List.length_range, tg0, tg1, ts0, ts1, htk, List.drop_succ_cons, List.drop_zero, List.append_assoc, List.append_nil, AV.pureL, AV.pure], by first | (simp only [go_sem, putPs, List.cons_append, List.nil_append, allOne_mapI, rdy_len, List.length_map, List.length_range, tg0, tg1, ts0, ts1, htk, List.drop_succ_cons, List.drop_zero, List.append_assoc, List.append_nil]; done) | rfl⟩) | ((with_reducible first | refine ds h73 ?_ ?_ | refine ds h72 ?_ ?_); focus exact ⟨rfl, rfl⟩) | (simp only [go_sem, putPs, List.cons_append, List.nil_append, allOne_mapI, rdy_len, List.length_map, List.length_range, tg0, tg1, ts0, ts1, htk, List.drop_succ_cons, List.drop_zero, List.append_assoc, List.append_nil])))
    · refine vc_fw (fun i => ⟨[(30, .int .i64 i), (29, .int .i64 h.ms.length), (28, .row 5 h.ms.length), (4, .lp 1 0), (5, .lp 2 0)], .box 30 (cG h) false :: .box 23 [.row (h.ms.length + 10) i] false :: .box 3 [.int .i64 (lateN h p)] false :: .gone :: .box 145 [.yld l] false :: .row 24 1 ((List.range h.ms.length).map (rowE 4 p g)) false :: .box 23 [.row 5 h.ms.length] false :: .box 3 [.int .i64 (bs (usd p) 5)] false :: .box 116 [.fn 94 (capsP 4 h stop)] false :: ((List.range h.ms.length).map (rgE p j g) ++ [.box 125 ((rdy h (tim h p)).map I) false, .row 24 1 ((p.take i).map encP) false])⟩) h.ms.length (fun _ => True) (.nilB 1 0 24 1 rfl rfl (by omega) (.base (wk_eq (by (simp only [go_sem, Nat.add_assoc, lateN, List.take_zero, List.length_append, List.append_assoc, List.length_map, List.length_range])) (by (simp only [go_sem]))))) trivial ?_
      intro i hi _
      rcases Nat.lt_or_ge i h.ms.length with hlt | hge
      · have hlt' : (i : Int) < h.ms.length := by omega
        have hri := rng_get hlt
        obtain ⟨li, hli⟩ := get_of (l := p) (j := i) (by rw [hq.len]; exact hlt)
        have hll := hq.short (List.mem_of_getElem? hli)
        have htl : ((p.take i).map encP).length = i := by rw [List.length_map, List.length_take, hq.len]; omega
        (repeat' (first | ((with_reducible first | refine vcG_split ?_ ?_ | refine vcIf_split ?_ ?_ | refine vcQ_split ?_ ?_ | refine vcDG_split ?_ ?_) <;> intro hb <;> (try rw [hb]) <;> (try simp only [bq, bz, dtrue, dfalse] at hb) <;> (try simp only [within] at hb) <;> try (simp only [go_sem, hlt', hri, hli, htl, Nat.add_assoc, tg0, tg1, ts0, ts1, List.length_range])) | refine And.intro (by first | exact trivial | omega | (simp only [I64]; omega)) ?_ | (with_reducible rw [vc_draw_eq]; first | (refine CV.draw (id := 11) sK01h_f38_11 mixed rfl (by kernel_rfl) ?_; delta sK01h_f38_11) | (refine CV.draw (id := 14) sK01h_f38_14 mixed rfl (by kernel_rfl) ?_; delta sK01h_f38_14)) | (simp only [go_sem, hlt', hri, hli, htl, Nat.add_assoc, tg0, tg1, ts0, ts1, List.length_range])))
        have hget : ∀ (a b c d e f g' m n : Blk) (tl : Heap), (a :: b :: c :: d :: e :: f :: g' :: m :: n :: ((List.range h.ms.length).map (rgE p j g) ++ tl))[4 + (i + 5)]? = some (rgE p j g i) := by
          intros
          rw [show 4 + (i + 5) = i + 9 by omega]
          simp only [List.getElem?_cons_succ]
          rw [List.getElem?_append_left (by simpa using hlt), List.getElem?_map, hri]; rfl
        refine dCallC_here (List.append_nil _).symm ((h74 li (by omega)).cloneL ⟨⟨rfl, ?_⟩, rfl⟩) ?_
        · rw [hget]
          refine ⟨rfl, rfl, ?_⟩
          have : p.getD i [] = li := by simp [hli]
          rw [this, List.map_append, List.take_left' (by simp)]
          exact frzE_self _ _ (by rw [pureN]; trivial)
        have etk := take_succ hli
        (repeat' (first | ((with_reducible first | refine vcG_split ?_ ?_ | refine vcIf_split ?_ ?_ | refine vcQ_split ?_ ?_ | refine vcDG_split ?_ ?_) <;> intro hb <;> (try rw [hb]) <;> (try simp only [bq, bz, dtrue, dfalse] at hb) <;> (try simp only [within] at hb) <;> try (simp only [go_sem, hlt', hri, hli, htl, Nat.add_assoc, tg0, tg1, ts0, ts1, List.length_range])) | refine And.intro (by first | exact trivial | omega | (simp only [I64]; omega)) ?_ | (with_reducible rw [vc_draw_eq]; first | (refine CV.draw (id := 11) sK01h_f38_11 mixed rfl (by kernel_rfl) ?_; delta sK01h_f38_11) | (refine CV.draw (id := 14) sK01h_f38_14 mixed rfl (by kernel_rfl) ?_; delta sK01h_f38_14)) | (simp only [go_sem, hlt', hri, hli, htl, Nat.add_assoc, tg0, tg1, ts0, ts1, List.length_range])))
        exact .base (wk_eq (by (simp only [go_sem, etk, List.map_append, encP])) (by (simp only [go_sem, Int.natCast_add, cn])))
      · have hge' : ¬ (i : Int) < h.ms.length := by omega
        have : i = h.ms.length := by omega
        subst this
        have htp : p.take h.ms.length = p := by rw [← hq.len]; exact List.take_length
        have hn5 : (5 = h.ms.length + 10) = False := eq_false (by omega)
        have hpl : (p.map encP).length = h.ms.length := by rw [List.length_map, hq.len]
        have hgr : ∀ (a b c d e f g' m n o : Blk), (a :: b :: c :: d :: e :: f :: g' :: m :: n :: ((List.range h.ms.length).map (rgE p j g) ++ [o, .row 24 1 (p.map encP) false]))[h.ms.length + 10]? = some (.row 24 1 (p.map encP) false) := by
          intros
          simp only [List.getElem?_cons_succ]
          rw [tg1]; rfl
        (repeat' (first | ((with_reducible first | refine vcG_split ?_ ?_ | refine vcIf_split ?_ ?_ | refine vcQ_split ?_ ?_ | refine vcDG_split ?_ ?_) <;> intro hb <;> (try rw [hb]) <;> (try simp only [bq, bz, dtrue, dfalse] at hb) <;> (try simp only [within] at hb) <;> try (simp only [go_sem, hge', htp, Nat.add_assoc, List.length_range])) | refine And.intro (by first | exact trivial | omega | (simp only [I64]; omega)) ?_ | (with_reducible rw [vc_draw_eq]; first | (refine CV.draw (id := 11) sK01h_f38_11 mixed rfl (by kernel_rfl) ?_; delta sK01h_f38_11) | (refine CV.draw (id := 14) sK01h_f38_14 mixed rfl (by kernel_rfl) ?_; delta sK01h_f38_14)) | (simp only [go_sem, hge', htp, Nat.add_assoc, List.length_range])))
        · have e1 : bst h s p = ((p, lateN h p), false) := by unfold bst; rw [if_pos (by assumption), decide_eq_false (by simpa using hb)]
          refine RBL.ex (.box 30 (cG h) false :: .box 23 [lP p] false :: .box 3 [.int .i64 (lateN h p)] false :: .gone :: ownP 4 l h stop p j g) (.take (h.ms.length + 10) (hgr _ _ _ _ _ _ _ _ _ _) (by rw [pureP]; trivial) (.base ?_)) rfl ?_
          · refine wk_drop (by (simp only [go_sem])) ?_ ?_ ?_ ?_ <;> (try unfold sealH) <;> (simp only [go_sem, ts1, pfx_app, pfx, belowH, hbr, hltk, belowB_gone, belowH_rgE, Nat.add_assoc, List.length_map, List.length_range, hpl, hn5, List.map_cons, List.map_append, List.map_nil, subB, subL, subV, sub_rowE, sub_rgE, false_and, if_false])
          · rw [e1]; exact ⟨rfl, rfl⟩
        · have e1 : bst h s p = ((p, lateN h p), true) := by unfold bst; rw [if_pos (by assumption), decide_eq_true (by simpa using hb)]
          refine RBL.nm (.box 30 (cG h) false :: .box 23 [lP p] false :: .box 3 [.int .i64 (lateN h p)] false :: .gone :: ownP 4 l h stop p j g) (.take (h.ms.length + 10) (hgr _ _ _ _ _ _ _ _ _ _) (by rw [pureP]; trivial) (.base ?_)) rfl ?_
          · refine wk_drop (by (simp only [go_sem])) ?_ ?_ ?_ ?_ <;> (try unfold sealH) <;> (simp only [go_sem, ts1, pfx_app, pfx, belowH, hbr, hltk, belowB_gone, belowH_rgE, Nat.add_assoc, List.length_map, List.length_range, hpl, hn5, List.map_cons, List.map_append, List.map_nil, subB, subL, subV, sub_rowE, sub_rgE, false_and, if_false])
          · rw [e1]; exact ⟨rfl, rfl⟩
    · have e1 : bst h s p = (s, false) := by unfold bst lateN; rw [if_neg (by assumption), decide_eq_false (by simpa using hb)]
      refine RBL.ex (.box 30 (cG h) false :: .box 23 [lP s.1] false :: .box 3 [.int .i64 s.2] false :: .gone :: ownP 4 l h stop p j g) (.base (by (first | exact wk_same (by (simp only [go_sem, Int.natCast_add, cn, Int.cast_ofNat_Int, pfx_app, pfx, belowH, hbr, hltk, belowB_gone, belowH_rgE, Nat.add_assoc, List.length_map, List.length_range])) | (refine wk_drop ?_ ?_ ?_ ?_ ?_ <;> (simp only [go_sem, Int.natCast_add, cn, Int.cast_ofNat_Int, pfx_app, pfx, belowH, hbr, hltk, belowB_gone, belowH_rgE, Nat.add_assoc, List.length_map, List.length_range]))))) rfl ?_
      rw [e1]; exact ⟨rfl, rfl⟩
    · have e1 : bst h s p = (s, true) := by unfold bst lateN; rw [if_neg (by assumption), decide_eq_true (by simpa using hb)]
      refine RBL.nm (.box 30 (cG h) false :: .box 23 [lP s.1] false :: .box 3 [.int .i64 s.2] false :: .gone :: ownP 4 l h stop p j g) (.base (by (first | exact wk_same (by (simp only [go_sem, Int.natCast_add, cn, Int.cast_ofNat_Int, pfx_app, pfx, belowH, hbr, hltk, belowB_gone, belowH_rgE, Nat.add_assoc, List.length_map, List.length_range])) | (refine wk_drop ?_ ?_ ?_ ?_ ?_ <;> (simp only [go_sem, Int.natCast_add, cn, Int.cast_ofNat_Int, pfx_app, pfx, belowH, hbr, hltk, belowB_gone, belowH_rgE, Nat.add_assoc, List.length_map, List.length_range]))))) rfl ?_
      rw [e1]; exact ⟨rfl, rfl⟩
  · rintro r H' ⟨rest, rfl⟩
    refine ⟨_, _, rest, rfl, rfl, by (simp only [go_sem]), by (simp only [go_sem]), ?_⟩
    have e : bestG h stop = (runC (bst h) ([], (h.ts.length : Int) + 1) (plansG h stop)).1 := rfl
    rw [← e]
    cases hR : (runC (bst h) ([], (h.ts.length : Int) + 1) (plansG h stop)).2 with
    | true =>
      rw [if_pos rfl]
      refine .inl ⟨rfl, ?_⟩
      (repeat' (first | ((with_reducible first | refine vcG_split ?_ ?_ | refine vcIf_split ?_ ?_ | refine vcQ_split ?_ ?_ | refine vcDG_split ?_ ?_) <;> intro hb <;> (try rw [hb]) <;> (try simp only [bq, bz, dtrue, dfalse] at hb) <;> (try simp only [within] at hb) <;> try (simp only [go_sem])) | refine And.intro (by first | exact trivial | omega | (simp only [I64]; omega)) ?_ | (with_reducible rw [vc_draw_eq]; first | (refine CV.draw (id := 11) sK01h_f38_11 mixed rfl (by kernel_rfl) ?_; delta sK01h_f38_11) | (refine CV.draw (id := 14) sK01h_f38_14 mixed rfl (by kernel_rfl) ?_; delta sK01h_f38_14)) | (simp only [go_sem])))
    | false =>
      rw [if_neg (by simp)]
      refine .inr ⟨_, rfl, ?_⟩
      (repeat' (first | ((with_reducible first | refine vcG_split ?_ ?_ | refine vcIf_split ?_ ?_ | refine vcQ_split ?_ ?_ | refine vcDG_split ?_ ?_) <;> intro hb <;> (try rw [hb]) <;> (try simp only [bq, bz, dtrue, dfalse] at hb) <;> (try simp only [within] at hb) <;> try (simp only [go_sem])) | refine And.intro (by first | exact trivial | omega | (simp only [I64]; omega)) ?_ | (with_reducible rw [vc_draw_eq]; first | (refine CV.draw (id := 11) sK01h_f38_11 mixed rfl (by kernel_rfl) ?_; delta sK01h_f38_11) | (refine CV.draw (id := 14) sK01h_f38_14 mixed rfl (by kernel_rfl) ?_; delta sK01h_f38_14)) | (simp only [go_sem])))
end Go.Proofs.Ytoadkchhimojlaa

