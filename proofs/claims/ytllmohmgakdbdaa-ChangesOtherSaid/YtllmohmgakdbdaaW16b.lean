/- Contracts of functions of the given program, without a condition beyond those that each theorem states; they lead to the given statement. -/
import Derived.Test.YtllmohmgakdbdaaW16a
import Derived.Test.YtllmohmgakdbdaaW10b
import Derived.Test.YtllmohmgakdbdaaW08e
import Derived.Test.YtllmohmgakdbdaaFlB
set_option linter.unusedSimpArgs false
set_option linter.unusedVariables false
set_option linter.unusedVariables false
set_option maxRecDepth 100000
namespace Go.Proofs.Ytllmohmgakdbdaa
open Go Go.Fl
open Classical
/-! ### A mark of another change -/
theorem same_has {ts : List Thing} (hv : okThings ts) {c : Int} {ma mb : List Mark} (h : ∀ k : Mark, k.change = c → (k ∈ ma ↔ k ∈ mb)) {i at_ : Int} (hi : 0 ≤ i ∧ i < ts.length) : hasAt ts ma c i at_ ↔ hasAt ts mb c i at_ :=
  ⟨hasOf_dom ts ma mb hv c (fun m hm hc => ⟨m, (h m hc).1 hm, hc, rfl, Int.le_refl _⟩) _ _ hi.1 (by omega) hi.2 _, hasOf_dom ts mb ma hv c (fun m hm hc => ⟨m, (h m hc).2 hm, hc, rfl, Int.le_refl _⟩) _ _ hi.1 (by omega) hi.2 _⟩
theorem same_rem {ts : List Thing} (hv : okThings ts) {c : Int} {ma mb : List Mark} (h : ∀ k : Mark, k.change = c → (k ∈ ma ↔ k ∈ mb)) (now : Int) (l : List Int) : isRem ts ma c now l ↔ isRem ts mb c now l := by
  unfold isRem
  have e : sel (lk ts (ma ++ altM ts c now l) c) ts.length = sel (lk ts (mb ++ altM ts c now l) c) ts.length := sel_congr _ fun i hi => by
    unfold lk
    rw [same_has hv (ma := ma ++ altM ts c now l) (mb := mb ++ altM ts c now l) (fun k hk => by rw [List.mem_append, List.mem_append, h k hk]) ⟨by omega, by omega⟩]
  rw [e]
theorem same_best {ts : List Thing} (hv : okThings ts) {c : Int} {ma mb : List Mark} (h : ∀ k : Mark, k.change = c → (k ∈ ma ↔ k ∈ mb)) (now : Int) : ∀ k, bestK ts ma c now k = bestK ts mb c now k
  | 0 => rfl
  | k + 1 => by
    have ih := same_best hv h now k
    have e := propext (same_rem hv h now (setOf k ts.length))
    simp only [bestK, ih, e]
section
variable {ts : List Thing} {ms : List Mark} {m : Mark} {c : Int}
theorem oth_mem (hm : m.change ≠ c) (k : Mark) (hk : k.change = c) : k ∈ ms ↔ k ∈ m :: ms := by
  rw [List.mem_cons]
  exact ⟨.inr, fun h => h.elim (fun e => absurd (by rw [← e]; exact hk) hm) id⟩
theorem oth_gv (hv : valid ts ms) (hv' : valid ts (m :: ms)) (hm : m.change ≠ c) {i : Int} (hi : 0 ≤ i ∧ i < ts.length) : gv (sP ts (m :: ms) c) i = gv (sP ts ms c) i := by
  have h1 := gv_dom (c := c) hv hv' hi fun k hk hc => ⟨k, (oth_mem hm k hc).1 hk, hc, rfl, Int.le_refl _⟩
  have h2 := gv_dom (c := c) hv' hv hi fun k hk hc => ⟨k, (oth_mem hm k hc).2 hk, hc, rfl, Int.le_refl _⟩
  omega
theorem oth_all (hv : valid ts ms) (hv' : valid ts (m :: ms)) (hm : m.change ≠ c) : rAll ts (m :: ms) c = rAll ts ms c := by
  have e : sel (fun i => hasAt ts (m :: ms) c i 99) ts.length = sel (fun i => hasAt ts ms c i 99) ts.length := sel_congr _ fun i hi => (same_has hv.things (oth_mem hm) ⟨by omega, by omega⟩).symm
  unfold rAll answer
  rw [e]
  by_cases hc : within c 0 2
  · rw [if_pos ⟨hv', hc⟩, if_pos ⟨hv, hc⟩]
  · rw [if_neg fun h => hc h.2, if_neg fun h => hc h.2]
    unfold askP
    rw [if_pos hv', if_pos hv]
theorem oth_mix (hv : valid ts ms) (hv' : valid ts (m :: ms)) (hm : m.change ≠ c) (x : Nat) : mixedAt ts (m :: ms) c x ↔ mixedAt ts ms c x := by
  have hr : ∀ n, n ∈ sel (thereAt ts x) ts.length → gv (sP ts (m :: ms) c) n = gv (sP ts ms c) n := fun n hn => by
    obtain ⟨i, h1, h2, _⟩ := (sel_mem _ _).1 hn
    exact oth_gv hv hv' hm ⟨by omega, by omega⟩
  unfold mixedAt mixes
  constructor
  · rintro ⟨⟨a, a1, a2⟩, b, b1, b2⟩
    exact ⟨⟨a, a1, by rw [← hr a a1]; exact a2⟩, b, b1, by rw [← hr b b1]; exact b2⟩
  · rintro ⟨⟨a, a1, a2⟩, b, b1, b2⟩
    exact ⟨⟨a, a1, by rw [hr a a1]; exact a2⟩, b, b1, by rw [hr b b1]; exact b2⟩
theorem oth_span (hv : valid ts ms) (hv' : valid ts (m :: ms)) (hm : m.change ≠ c) : ∀ n, spanT ts (m :: ms) c n = spanT ts ms c n
  | 0 => rfl
  | n + 1 => by
    have ih := oth_span hv hv' hm n
    have e := propext (oth_mix hv hv' hm n)
    simp only [spanT, ih, e]
theorem oth_time (hv : valid ts ms) (hv' : valid ts (m :: ms)) (hm : m.change ≠ c) (hc : within c 0 2) : rTime ts (m :: ms) c = rTime ts ms c := by
  rw [show rTime ts (m :: ms) c = _ from answer_yes ⟨hv', hc⟩, show rTime ts ms c = _ from answer_yes ⟨hv, hc⟩, oth_span hv hv' hm]
theorem ix_cons_no {q : Mark → Prop} (h : ¬ q m) : (ix q ms = -1 ∧ ix q (m :: ms) = -1) ∨ (0 ≤ ix q ms ∧ ix q (m :: ms) = ix q ms + 1) := by
  by_cases hx : ∃ j, firstAt q ms j
  · obtain ⟨j, hj⟩ := hx
    have h2 : firstAt q (m :: ms) (j + 1) := by
      refine ⟨by obtain ⟨⟨a, h1, h2⟩, _⟩ := hj; exact ⟨a, by simpa using h1, h2⟩, fun i hi b hb => ?_⟩
      cases i with
      | zero => simp at hb; rw [← hb]; exact h
      | succ i => exact hj.2 i (by omega) b (by simpa using hb)
    right
    rw [ix_at hj, ix_at h2]
    omega
  · left
    have h2 : ¬ ∃ j, firstAt q (m :: ms) j := by
      rintro ⟨j, ⟨a, h1, h2⟩, h3⟩
      cases j with
      | zero => simp at h1; rw [← h1] at h2; exact h h2
      | succ j => exact hx ⟨j, ⟨a, by simpa using h1, h2⟩, fun i hi b hb => h3 (i + 1) (by omega) b (by simpa using hb)⟩
    unfold ix
    rw [dif_neg hx, dif_neg h2]
    exact ⟨rfl, rfl⟩
theorem gv_m1 {l : List Int} : gv l (-1) = gv l 0 := rfl
theorem oth_src (hv : valid ts ms) (hv' : valid ts (m :: ms)) (hm : m.change ≠ c) : ∀ (n : Nat) (i : Int), (i = -1 ∨ 0 ≤ i ∧ i < ts.length) → (srcOf ts ms c n i = -1 ∧ srcOf ts (m :: ms) c n i = -1) ∨ (0 ≤ srcOf ts ms c n i ∧ srcOf ts (m :: ms) c n i = srcOf ts ms c n i + 1)
  | 0, i, _ => .inl ⟨rfl, rfl⟩
  | n + 1, i, hi => by
    have hpos : 0 < ts.length := by
      have := (hv'.marks m (by simp)).2.1
      unfold within at this; omega
    have hg : gv (sP ts (m :: ms) c) i = gv (sP ts ms c) i := by
      rcases hi with rfl | hi
      · rw [gv_m1, gv_m1]; exact oth_gv hv hv' hm ⟨by omega, by omega⟩
      · exact oth_gv hv hv' hm hi
    have hix := ix_cons_no (ms := ms) (m := m) (q := ownM c i (gv (sP ts ms c) i)) (fun h => hm h.1)
    simp only [srcOf, hg]
    rcases hix with ⟨h1, h2⟩ | ⟨h1, h2⟩
    · rw [h1, h2, if_neg (by omega)]
      obtain ⟨t, ht⟩ := get_of (l := ts) (j := i.toNat) (by omega)
      rw [ht]
      have hof := (hv.things _ _ ht).1
      unfold within at hof
      exact oth_src hv hv' hm n t.of (by omega)
    · rw [h2, if_pos h1, if_pos (by omega)]
      exact .inr ⟨h1, rfl⟩
theorem oth_source (hv : valid ts ms) (hv' : valid ts (m :: ms)) (hm : m.change ≠ c) {i : Int} (hi : 0 ≤ i ∧ i < ts.length) (hc : within c 0 2) :
    (rSource ts ms i c = (0, 3) ∧ rSource ts (m :: ms) i c = (0, 3)) ∨ ∃ k : Int, (0 ≤ k ∧ k ≤ 6) ∧ rSource ts ms i c = (k, 0) ∧ rSource ts (m :: ms) i c = (k + 1, 0) := by
  have hw : within i 0 (ts.length - 1) := by unfold within; omega
  rw [show rSource ts ms i c = _ from answer_yes ⟨hv, hw, hc⟩, show rSource ts (m :: ms) i c = _ from answer_yes ⟨hv', hw, hc⟩, oth_gv hv hv' hm hi]
  by_cases h : gv (sP ts ms c) i = 100
  · rw [if_pos h, if_pos h]; exact .inl ⟨rfl, rfl⟩
  · rw [if_neg h, if_neg h]
    have hb := sv_bounds ts ms hv.things hv.marks hv.1 c i hi
    obtain ⟨e1, k, mk, e2, e3, _⟩ := src_spec ts ms hv.things hv.marks hv.1 c (i.toNat + 1) i.toNat (by omega) (by omega) (by rw [Int.toNat_of_nonneg hi.1]; omega)
    rw [Int.toNat_of_nonneg hi.1] at e1 e2
    right
    rcases oth_src hv hv' hm (i.toNat + 1) i (.inr hi) with ⟨h1, _⟩ | ⟨h1, h2⟩
    · omega
    · have e4 := (List.getElem?_eq_some_iff.1 e3).1
      have e5 := hv.2.1
      exact ⟨_, ⟨h1, by omega⟩, rfl, by rw [h2]⟩
end
theorem h35b (ts : List Thing) (ms : List Mark) (ht : ts.length * 32 ≤ 140737488351232) (hm : ms.length * 24 ≤ 140737488351232) : HCH Try.prog 35 [hT ts ms] [] fun r H' => r = cpV ts ms ∧ H' = cpH ts ms := by
  refine HCH.body Try.func35 (by kernel_rfl) rfl (by simp [Try.f35]) ?_
  simp only [Try.f35]
  refine CV.run ?_
  (repeat' (first | ((first | with_reducible refine vcG_split ?_ ?_ | with_reducible refine vcIf_split ?_ ?_ | with_reducible refine vcQ_split ?_ ?_ | with_reducible refine vcDG_split ?_ ?_) <;> intro hb <;> (try rw [hb]) <;> (try simp only [Bool.and_eq_true, Bool.or_eq_true, dtrue, dfalse, Bool.not_eq_true', Bool.not_eq_false', Bool.and_eq_false_iff, Bool.or_eq_false_iff, Bool.not_true, Bool.not_false] at hb) <;> (try simp only [within] at hb) <;> try (simp only [go_sem, cpV, cpH, List.nil_append])) | refine And.intro (by (first | exact trivial | (simp only [I64]; omega) | omega)) ?_ | (with_reducible rw [vc_draw_eq]; first | refine CV.draw (id := 1) [(0, 0), (0, 0), (0, 0), (0, 0), (0, 1), (0, 1), (0, 1), (0, 0), (2, 2), (0, 0)] mixed rfl (by kernel_rfl) ?_) | fail | (simp only [go_sem, cpV, cpH, List.nil_append])))
  all_goals first
    | exact ⟨⟨by omega, by omega, .inl trivial⟩, ⟨by omega, by omega, .inl trivial⟩⟩
    | trace_state
theorem sub_mapT3 {b n : Nat} {v : AV} {l : List Thing} : List.map (subL b n v) (List.map encT l) = List.map encT l := by
  rw [List.map_map]; exact List.map_congr_left fun a _ => by simp [encT, subL, subV]
theorem sub_mapM3 {b n : Nat} {v : AV} {l : List Mark} : List.map (subL b n v) (List.map encM l) = List.map encM l := by
  rw [List.map_map]; exact List.map_congr_left fun a _ => by simp [encM, subL, subV]
attribute [go_sem] sub_mapT3 sub_mapM3
end Go.Proofs.Ytllmohmgakdbdaa
namespace Go.Fl
open Go.RowKit
section
variable {P : Program} {nt m : Nat} {R : Exit → St → Prop} {st : St}
theorem CV.cutW {x y : Code} {S2 : St} (h1 : CV P nt m R [.code x, .back fun s => Wn m s S2] st) (h2 : CV P nt m R [.code y] S2) : CV P nt m R [.code (.seq x y)] st := by
  refine CV.mk fun k' hr => ?_
  obtain ⟨r, rfl, hr'⟩ := hr
  have hr' : r = [] := hr'
  subst hr'
  refine VC.seq fun F E a w hF hE hg => ?_
  have h := h1.of _ ⟨_, rfl, _, rfl, rfl⟩ F E a w hF hE hg
  refine wpIn_mono h fun e a' w' hp => ?_
  cases e with
  | normal =>
    obtain ⟨s, hs, hgs⟩ := hp
    exact h2.of _ ⟨_, rfl, rfl⟩ F E a' w' hF hE (hs.good hE hgs)
  | _ => exact hp
theorem VC.app0 {o : Oper} {rest : List Oper} {all : Array Oper} {k : List It} {a b : Operand} {t e : TypeId} {n sz sz2 : Nat} {f f2 : Bool} {xs : List (List AV)} (hd : dstOk nt o.dst) (hw : o.guard = none)
    (hop : o.op = .call { callee := .builtin .append, args := #[a, b], argTypes := #[t, t] }) (he : elT P t = some (e, n)) (ha : evA st.env a = .lst f sz xs) (hb : evA st.env b = .lst f2 sz2 [])
    (h : VC P nt m R (.ops rest all :: k) ⟨eput st.env o.dst (.lst false sz xs), st.H⟩) : VC P nt m R (.ops (o :: rest) all :: k) st := by
  intro F E act w hF hE hg
  obtain ⟨κ, rfl, h2, h3, h4, h5, h6, h7, h8⟩ := hg.rho
  have hwt : Region.wanted o (yielded all act.tmps) = true := by simp [Region.wanted, hw]
  simp only [post, wpListIn, hwt, if_true]
  have v1 := h8.ev a
  have v2 := h8.ev b
  rw [ha] at v1
  rw [hb] at v2
  obtain ⟨A, cap, e1, c1, c2, c3, c4, c5, c6⟩ := id v1
  obtain ⟨B, cap2, e2, _⟩ := id v2
  have hr := run_append_nothing he A xs.length cap c1 B cap2 κ.w (fun _ _ => trivial) (ty := o.type)
  have hpl : V κ (.lst false sz xs) (.slice A xs.length cap) := ⟨A, cap, rfl, c1, c2, (fun q => by cases q), c4, c5, c6⟩
  refine oper_of hF.1 (fun c e => by rw [hop] at e; cases e) (c := .slice A xs.length cap) (w' := κ.w) (.inl ?_) ?_
  · unfold execOp
    rw [hop]
    simp [resolve, invoke, builtin, e1, e2, hr]
  · refine h F E _ _ hF hE ?_
    rw [← h2]
    exact .put h2 h3 h4 h5 h6 h7 h3 (.refl κ) hpl (fun d e => by have e' : o.dst = some d := e; rw [e'] at hd; exact hd)
end
end Go.Fl
namespace Go.Proofs.Ytllmohmgakdbdaa
open Go Go.Fl
open Classical
abbrev othS (ts : List Thing) (ms : List Mark) (i c x : Int) (m : Mark) : St := ⟨[(3, .lp 0 0), (4, .lp 1 0), (5, .lp 2 0), (6, .bool false)], [.box 25 [.lst false 4 (ts.map encT), .lst false 3 (ms.map encM)] false, .box 27 [.int .i64 i, .int .i64 c, .int .i64 x] false, .box 57 (encM m) false]⟩
abbrev othT (ts : List Thing) (ms : List Mark) (i c x : Int) (m : Mark) : St := ⟨[(3, .lp 0 0), (4, .lp 1 0), (5, .lp 2 0), (6, .bool false), (7, .lp 7 0)], [.box 25 [.lst false 4 (ts.map encT), .lst false 3 (ms.map encM)] false, .box 27 [.int .i64 i, .int .i64 c, .int .i64 x] false, .box 57 (encM m) false, .box 25 [.lst false 4 (ts.map encT), .lst false 3 (ms.map encM)] false, .box 25 [.row 5 ts.length, .row 6 ms.length] false, .row 46 4 (ts.map encT) false, .row 57 3 (ms.map encM) false, .box 25 [.row 5 ts.length, .row 6 ms.length] false]⟩
abbrev othU (ts : List Thing) (ms : List Mark) (i c x : Int) (m : Mark) : St := ⟨[(3, .lp 0 0), (4, .lp 1 0), (5, .lp 2 0), (6, .bool false), (7, .lp 7 0)], [.box 25 [.lst false 4 (ts.map encT), .lst false 3 (ms.map encM)] false, .box 27 [.int .i64 i, .int .i64 c, .int .i64 x] false, .box 57 (encM m) false, .box 25 [.lst false 4 (ts.map encT), .lst false 3 (ms.map encM)] false, .box 25 [.lst false 4 (ts.map encT), .row 6 ms.length] false, .row 46 4 (ts.map encT) true, .row 57 3 (ms.map encM) false, .box 25 [.lst false 4 (ts.map encT), .lst false 3 ((m :: ms).map encM)] false]⟩
set_option maxHeartbeats 4000000 in
theorem c12 (ts : List Thing) (ms : List Mark) (ht : ts.length * 32 ≤ 140737488351232) (hml : ms.length * 24 ≤ 140737488351232) (i c x : Int) (m : Mark) : PC Try.prog 12 [hT ts ms, xA i c x, .agg (encM m)] (.bool true) := by
  refine PC.body Try.func12 (by kernel_rfl) rfl (by simp [Try.f12]) rfl ?_
  simp only [Try.f12]
  intro hlen
  refine CV.cutW (S2 := othS ts ms i c x m) ?_ (CV.cutW (S2 := othT ts ms i c x m) ?_ (CV.cutW (S2 := othU ts ms i c x m) ?_ ?_))
  · refine CV.run ?_
    (repeat' (first | ((first | with_reducible refine vcG_split ?_ ?_ | with_reducible refine vcIf_split ?_ ?_ | with_reducible refine vcQ_split ?_ ?_ | with_reducible refine vcDG_split ?_ ?_) <;> intro hb <;> (try rw [hb]) <;> (try simp only [Bool.and_eq_true, Bool.or_eq_true, dtrue, dfalse, Bool.not_eq_true', Bool.not_eq_false', Bool.and_eq_false_iff, Bool.or_eq_false_iff, Bool.not_true, Bool.not_false] at hb) <;> (try simp only [within] at hb) <;> try (simp only [go_sem, encM])) | refine And.intro (by (first | exact trivial | (simp only [I64]; omega) | omega)) ?_ | fail | (simp only [go_sem, encM])))
    exact .base (by (first | exact wk_same (by (simp only [go_sem, Int.natCast_add, Int.natCast_one, Int.natCast_zero, Int.cast_ofNat_Int, encM])) | exact wk_drop (by (simp only [go_sem, Int.natCast_add, Int.natCast_one, Int.natCast_zero, Int.cast_ofNat_Int, encM])) (by (simp only [go_sem, Int.natCast_add, Int.natCast_one, Int.natCast_zero, Int.cast_ofNat_Int, encM])) (by (simp only [go_sem, Int.natCast_add, Int.natCast_one, Int.natCast_zero, Int.cast_ofNat_Int, encM])) (by (simp only [go_sem, Int.natCast_add, Int.natCast_one, Int.natCast_zero, Int.cast_ofNat_Int, encM])) (by (simp only [go_sem, Int.natCast_add, Int.natCast_one, Int.natCast_zero, Int.cast_ofNat_Int, encM]))))
  · refine CV.run ?_
    (repeat' (first | ((first | with_reducible refine vcG_split ?_ ?_ | with_reducible refine vcIf_split ?_ ?_ | with_reducible refine vcQ_split ?_ ?_ | with_reducible refine vcDG_split ?_ ?_) <;> intro hb <;> (try rw [hb]) <;> (try simp only [Bool.and_eq_true, Bool.or_eq_true, dtrue, dfalse, Bool.not_eq_true', Bool.not_eq_false', Bool.and_eq_false_iff, Bool.or_eq_false_iff, Bool.not_true, Bool.not_false] at hb) <;> (try simp only [within] at hb) <;> try (simp only [go_sem, encM])) | refine And.intro (by (first | exact trivial | (simp only [I64]; omega) | omega)) ?_ | fail | (simp only [go_sem, encM])))
    refine vcP_new (h35b ts ms ht hml) rfl ?_
    (repeat' (first | ((first | with_reducible refine vcG_split ?_ ?_ | with_reducible refine vcIf_split ?_ ?_ | with_reducible refine vcQ_split ?_ ?_ | with_reducible refine vcDG_split ?_ ?_) <;> intro hb <;> (try rw [hb]) <;> (try simp only [Bool.and_eq_true, Bool.or_eq_true, dtrue, dfalse, Bool.not_eq_true', Bool.not_eq_false', Bool.and_eq_false_iff, Bool.or_eq_false_iff, Bool.not_true, Bool.not_false] at hb) <;> (try simp only [within] at hb) <;> try (simp only [go_sem, cpV, cpH, List.map_nil, List.map_cons, List.cons_append, List.nil_append, List.length_cons, List.length_nil, List.length_map, false_and, if_false])) | refine And.intro (by (first | exact trivial | (simp only [I64]; omega) | omega)) ?_ | fail | (simp only [go_sem, cpV, cpH, List.map_nil, List.map_cons, List.cons_append, List.nil_append, List.length_cons, List.length_nil, List.length_map, false_and, if_false])))
    exact .base (by (first | exact wk_same (by (simp only [go_sem, Int.natCast_add, Int.natCast_one, Int.natCast_zero, Int.cast_ofNat_Int, encM])) | exact wk_drop (by (simp only [go_sem, Int.natCast_add, Int.natCast_one, Int.natCast_zero, Int.cast_ofNat_Int, encM])) (by (simp only [go_sem, Int.natCast_add, Int.natCast_one, Int.natCast_zero, Int.cast_ofNat_Int, encM])) (by (simp only [go_sem, Int.natCast_add, Int.natCast_one, Int.natCast_zero, Int.cast_ofNat_Int, encM])) (by (simp only [go_sem, Int.natCast_add, Int.natCast_one, Int.natCast_zero, Int.cast_ofNat_Int, encM])) (by (simp only [go_sem, Int.natCast_add, Int.natCast_one, Int.natCast_zero, Int.cast_ofNat_Int, encM]))))
  · by_cases h0 : ms = []
    · subst h0
      refine CV.mk fun k' hr => ?_
      obtain ⟨r, rfl, r2, rfl, hr2⟩ := hr
      have hr2 : r2 = [] := hr2
      subst hr2
      refine VC.region ?_
      refine VC.run (by show _ < _; omega) (.inl rfl) (by (simp only [go_sem, encM]); rfl) trivial ?_
      refine VC.run (by show _ < _; omega) (.inl rfl) (by (simp only [go_sem, encM]); rfl) trivial ?_
      refine VC.run (by show _ < _; omega) (.inl rfl) (by (simp only [go_sem, encM]); rfl) trivial ?_
      refine VC.run (by show _ < _; omega) (.inl rfl) (by (simp only [go_sem, encM]); rfl) trivial ?_
      refine VC.app0 (by show _ < _; omega) rfl rfl (e := 57) (n := 3) (by kernel_rfl) rfl rfl ?_
      refine VC.run (by show _ < _; omega) (.inl rfl) (by (simp only [go_sem, encM]); rfl) trivial ?_
      refine VC.run trivial (.inl rfl) (by (simp only [go_sem, encM]); rfl) trivial ?_
      refine VC.nops (VC.back ?_)
      simp only [go_sem]
      exact .take 5 rfl (by (simp only [go_sem])) (.base (by (first | exact wk_same (by (simp only [go_sem, Int.natCast_add, Int.natCast_one, Int.natCast_zero, Int.cast_ofNat_Int, encM, List.map_cons, List.map_nil, List.length_nil, false_and, if_false])) | exact wk_drop (by (simp only [go_sem, Int.natCast_add, Int.natCast_one, Int.natCast_zero, Int.cast_ofNat_Int, encM, List.map_cons, List.map_nil, List.length_nil, false_and, if_false])) (by (simp only [go_sem, Int.natCast_add, Int.natCast_one, Int.natCast_zero, Int.cast_ofNat_Int, encM, List.map_cons, List.map_nil, List.length_nil, false_and, if_false])) (by (simp only [go_sem, Int.natCast_add, Int.natCast_one, Int.natCast_zero, Int.cast_ofNat_Int, encM, List.map_cons, List.map_nil, List.length_nil, false_and, if_false])) (by (simp only [go_sem, Int.natCast_add, Int.natCast_one, Int.natCast_zero, Int.cast_ofNat_Int, encM, List.map_cons, List.map_nil, List.length_nil, false_and, if_false])) (by (simp only [go_sem, Int.natCast_add, Int.natCast_one, Int.natCast_zero, Int.cast_ofNat_Int, encM, List.map_cons, List.map_nil, List.length_nil, false_and, if_false])))))
    · refine CV.run ?_
      have h0' : ¬ ms.map encM = [] := by simpa using h0
      (repeat' (first | ((first | with_reducible refine vcG_split ?_ ?_ | with_reducible refine vcIf_split ?_ ?_ | with_reducible refine vcQ_split ?_ ?_ | with_reducible refine vcDG_split ?_ ?_) <;> intro hb <;> (try rw [hb]) <;> (try simp only [Bool.and_eq_true, Bool.or_eq_true, dtrue, dfalse, Bool.not_eq_true', Bool.not_eq_false', Bool.and_eq_false_iff, Bool.or_eq_false_iff, Bool.not_true, Bool.not_false] at hb) <;> (try simp only [within] at hb) <;> try (simp only [go_sem, encM, h0', List.length_cons, List.length_nil, List.length_map])) | refine And.intro (by (first | exact trivial | (simp only [I64]; omega) | omega)) ?_ | fail | (simp only [go_sem, encM, h0', List.length_cons, List.length_nil, List.length_map])))
      refine ⟨⟨by omega, by omega, .inr trivial⟩, .take 8 rfl (by (simp only [go_sem])) (.take 5 rfl (by (simp only [go_sem])) (.base (by (first | exact wk_same (by (simp only [go_sem, Int.natCast_add, Int.natCast_one, Int.natCast_zero, Int.cast_ofNat_Int, encM, List.map_cons, List.length_cons, List.length_map, false_and, if_false, Nat.add_comm])) | exact wk_drop (by (simp only [go_sem, Int.natCast_add, Int.natCast_one, Int.natCast_zero, Int.cast_ofNat_Int, encM, List.map_cons, List.length_cons, List.length_map, false_and, if_false, Nat.add_comm])) (by (simp only [go_sem, Int.natCast_add, Int.natCast_one, Int.natCast_zero, Int.cast_ofNat_Int, encM, List.map_cons, List.length_cons, List.length_map, false_and, if_false, Nat.add_comm])) (by (simp only [go_sem, Int.natCast_add, Int.natCast_one, Int.natCast_zero, Int.cast_ofNat_Int, encM, List.map_cons, List.length_cons, List.length_map, false_and, if_false, Nat.add_comm])) (by (simp only [go_sem, Int.natCast_add, Int.natCast_one, Int.natCast_zero, Int.cast_ofNat_Int, encM, List.map_cons, List.length_cons, List.length_map, false_and, if_false, Nat.add_comm])) (by (simp only [go_sem, Int.natCast_add, Int.natCast_one, Int.natCast_zero, Int.cast_ofNat_Int, encM, List.map_cons, List.length_cons, List.length_map, false_and, if_false, Nat.add_comm]))))))⟩
  · have h15 := c15 ts ms
    by_cases hv : ¬ valid ts ms
    · rw [decide_eq_false hv] at h15
      refine CV.run ?_
      (repeat' (first | ((first | with_reducible refine vcG_split ?_ ?_ | with_reducible refine vcIf_split ?_ ?_ | with_reducible refine vcQ_split ?_ ?_ | with_reducible refine vcDG_split ?_ ?_) <;> intro hb <;> (try rw [hb]) <;> (try simp only [Bool.and_eq_true, Bool.or_eq_true, dtrue, dfalse, Bool.not_eq_true', Bool.not_eq_false', Bool.and_eq_false_iff, Bool.or_eq_false_iff, Bool.not_true, Bool.not_false] at hb) <;> (try simp only [within] at hb) <;> try (simp only [go_sem, encM])) | refine And.intro (by (first | exact trivial | (simp only [I64]; omega) | omega)) ?_ | (first | (refine vcP_pure (h15) rfl ?_ ?_ ?_; (focus (first | rfl | ((simp only [go_sem, encM, AV.pureL, AV.pure, pureL_mapI, Bool.and_self]) <;> fail))); (focus (first | ((simp only [go_sem, encM]) <;> fail) | rfl))) | (refine dCallP_pure (h15) rfl ?_ ?_ ?_; (focus (first | rfl | ((simp only [go_sem, encM, AV.pureL, AV.pure, pureL_mapI, Bool.and_self]) <;> fail))); (focus (first | ((simp only [go_sem, encM]) <;> fail) | rfl))) | refine vcP_safe (h15) rfl rfl (by (simp only [go_sem, encM])) ?_ | refine dCallP_safe (h15) rfl rfl ?_ | (refine vcP_pure (c18) rfl ?_ ?_ ?_; (focus (first | rfl | ((simp only [go_sem, encM, AV.pureL, AV.pure, pureL_mapI, Bool.and_self]) <;> fail))); (focus (first | ((simp only [go_sem, encM]) <;> fail) | rfl))) | (refine dCallP_pure (c18) rfl ?_ ?_ ?_; (focus (first | rfl | ((simp only [go_sem, encM, AV.pureL, AV.pure, pureL_mapI, Bool.and_self]) <;> fail))); (focus (first | ((simp only [go_sem, encM]) <;> fail) | rfl))) | refine vcP_safe (c18) rfl rfl (by (simp only [go_sem, encM])) ?_ | refine dCallP_safe (c18) rfl rfl ?_) | (simp only [go_sem, encM])))
    have hv := Classical.not_not.1 hv
    rw [decide_eq_true hv] at h15
    have g15 := c15 ts (m :: ms)
    by_cases hv' : ¬ valid ts (m :: ms)
    · rw [decide_eq_false hv'] at g15
      refine CV.run ?_
      (repeat' (first | ((first | with_reducible refine vcG_split ?_ ?_ | with_reducible refine vcIf_split ?_ ?_ | with_reducible refine vcQ_split ?_ ?_ | with_reducible refine vcDG_split ?_ ?_) <;> intro hb <;> (try rw [hb]) <;> (try simp only [Bool.and_eq_true, Bool.or_eq_true, dtrue, dfalse, Bool.not_eq_true', Bool.not_eq_false', Bool.and_eq_false_iff, Bool.or_eq_false_iff, Bool.not_true, Bool.not_false] at hb) <;> (try simp only [within] at hb) <;> try (simp only [go_sem, encM])) | refine And.intro (by (first | exact trivial | (simp only [I64]; omega) | omega)) ?_ | (first | (refine vcP_pure (h15) rfl ?_ ?_ ?_; (focus (first | rfl | ((simp only [go_sem, encM, AV.pureL, AV.pure, pureL_mapI, Bool.and_self]) <;> fail))); (focus (first | ((simp only [go_sem, encM]) <;> fail) | rfl))) | (refine dCallP_pure (h15) rfl ?_ ?_ ?_; (focus (first | rfl | ((simp only [go_sem, encM, AV.pureL, AV.pure, pureL_mapI, Bool.and_self]) <;> fail))); (focus (first | ((simp only [go_sem, encM]) <;> fail) | rfl))) | refine vcP_safe (h15) rfl rfl (by (simp only [go_sem, encM])) ?_ | refine dCallP_safe (h15) rfl rfl ?_ | (refine vcP_pure (g15) rfl ?_ ?_ ?_; (focus (first | rfl | ((simp only [go_sem, encM, AV.pureL, AV.pure, pureL_mapI, Bool.and_self]) <;> fail))); (focus (first | ((simp only [go_sem, encM]) <;> fail) | rfl))) | (refine dCallP_pure (g15) rfl ?_ ?_ ?_; (focus (first | rfl | ((simp only [go_sem, encM, AV.pureL, AV.pure, pureL_mapI, Bool.and_self]) <;> fail))); (focus (first | ((simp only [go_sem, encM]) <;> fail) | rfl))) | refine vcP_safe (g15) rfl rfl (by (simp only [go_sem, encM])) ?_ | refine dCallP_safe (g15) rfl rfl ?_ | (refine vcP_pure (c18) rfl ?_ ?_ ?_; (focus (first | rfl | ((simp only [go_sem, encM, AV.pureL, AV.pure, pureL_mapI, Bool.and_self]) <;> fail))); (focus (first | ((simp only [go_sem, encM]) <;> fail) | rfl))) | (refine dCallP_pure (c18) rfl ?_ ?_ ?_; (focus (first | rfl | ((simp only [go_sem, encM, AV.pureL, AV.pure, pureL_mapI, Bool.and_self]) <;> fail))); (focus (first | ((simp only [go_sem, encM]) <;> fail) | rfl))) | refine vcP_safe (c18) rfl rfl (by (simp only [go_sem, encM])) ?_ | refine dCallP_safe (c18) rfl rfl ?_) | (simp only [go_sem, encM])))
    have hv' := Classical.not_not.1 hv'
    rw [decide_eq_true hv'] at g15
    have h25 := c25 ts ms i c x
    by_cases ha : ¬ isAsk ts i c x
    · rw [decide_eq_false ha] at h25
      refine CV.run ?_
      (repeat' (first | ((first | with_reducible refine vcG_split ?_ ?_ | with_reducible refine vcIf_split ?_ ?_ | with_reducible refine vcQ_split ?_ ?_ | with_reducible refine vcDG_split ?_ ?_) <;> intro hb <;> (try rw [hb]) <;> (try simp only [Bool.and_eq_true, Bool.or_eq_true, dtrue, dfalse, Bool.not_eq_true', Bool.not_eq_false', Bool.and_eq_false_iff, Bool.or_eq_false_iff, Bool.not_true, Bool.not_false] at hb) <;> (try simp only [within] at hb) <;> try (simp only [go_sem, encM])) | refine And.intro (by (first | exact trivial | (simp only [I64]; omega) | omega)) ?_ | (first | (refine vcP_pure (h15) rfl ?_ ?_ ?_; (focus (first | rfl | ((simp only [go_sem, encM, AV.pureL, AV.pure, pureL_mapI, Bool.and_self]) <;> fail))); (focus (first | ((simp only [go_sem, encM]) <;> fail) | rfl))) | (refine dCallP_pure (h15) rfl ?_ ?_ ?_; (focus (first | rfl | ((simp only [go_sem, encM, AV.pureL, AV.pure, pureL_mapI, Bool.and_self]) <;> fail))); (focus (first | ((simp only [go_sem, encM]) <;> fail) | rfl))) | refine vcP_safe (h15) rfl rfl (by (simp only [go_sem, encM])) ?_ | refine dCallP_safe (h15) rfl rfl ?_ | (refine vcP_pure (g15) rfl ?_ ?_ ?_; (focus (first | rfl | ((simp only [go_sem, encM, AV.pureL, AV.pure, pureL_mapI, Bool.and_self]) <;> fail))); (focus (first | ((simp only [go_sem, encM]) <;> fail) | rfl))) | (refine dCallP_pure (g15) rfl ?_ ?_ ?_; (focus (first | rfl | ((simp only [go_sem, encM, AV.pureL, AV.pure, pureL_mapI, Bool.and_self]) <;> fail))); (focus (first | ((simp only [go_sem, encM]) <;> fail) | rfl))) | refine vcP_safe (g15) rfl rfl (by (simp only [go_sem, encM])) ?_ | refine dCallP_safe (g15) rfl rfl ?_ | (refine vcP_pure (h25) rfl ?_ ?_ ?_; (focus (first | rfl | ((simp only [go_sem, encM, AV.pureL, AV.pure, pureL_mapI, Bool.and_self]) <;> fail))); (focus (first | ((simp only [go_sem, encM]) <;> fail) | rfl))) | (refine dCallP_pure (h25) rfl ?_ ?_ ?_; (focus (first | rfl | ((simp only [go_sem, encM, AV.pureL, AV.pure, pureL_mapI, Bool.and_self]) <;> fail))); (focus (first | ((simp only [go_sem, encM]) <;> fail) | rfl))) | refine vcP_safe (h25) rfl rfl (by (simp only [go_sem, encM])) ?_ | refine dCallP_safe (h25) rfl rfl ?_ | (refine vcP_pure (c18) rfl ?_ ?_ ?_; (focus (first | rfl | ((simp only [go_sem, encM, AV.pureL, AV.pure, pureL_mapI, Bool.and_self]) <;> fail))); (focus (first | ((simp only [go_sem, encM]) <;> fail) | rfl))) | (refine dCallP_pure (c18) rfl ?_ ?_ ?_; (focus (first | rfl | ((simp only [go_sem, encM, AV.pureL, AV.pure, pureL_mapI, Bool.and_self]) <;> fail))); (focus (first | ((simp only [go_sem, encM]) <;> fail) | rfl))) | refine vcP_safe (c18) rfl rfl (by (simp only [go_sem, encM])) ?_ | refine dCallP_safe (c18) rfl rfl ?_) | (simp only [go_sem, encM])))
    have ha := Classical.not_not.1 ha
    rw [decide_eq_true ha] at h25
    by_cases hm : m.change = c
    · subst hm
      refine CV.run ?_
      (repeat' (first | ((first | with_reducible refine vcG_split ?_ ?_ | with_reducible refine vcIf_split ?_ ?_ | with_reducible refine vcQ_split ?_ ?_ | with_reducible refine vcDG_split ?_ ?_) <;> intro hb <;> (try rw [hb]) <;> (try simp only [Bool.and_eq_true, Bool.or_eq_true, dtrue, dfalse, Bool.not_eq_true', Bool.not_eq_false', Bool.and_eq_false_iff, Bool.or_eq_false_iff, Bool.not_true, Bool.not_false] at hb) <;> (try simp only [within] at hb) <;> try (simp only [go_sem, encM])) | refine And.intro (by (first | exact trivial | (simp only [I64]; omega) | omega)) ?_ | (first | (refine vcP_pure (h15) rfl ?_ ?_ ?_; (focus (first | rfl | ((simp only [go_sem, encM, AV.pureL, AV.pure, pureL_mapI, Bool.and_self]) <;> fail))); (focus (first | ((simp only [go_sem, encM]) <;> fail) | rfl))) | (refine dCallP_pure (h15) rfl ?_ ?_ ?_; (focus (first | rfl | ((simp only [go_sem, encM, AV.pureL, AV.pure, pureL_mapI, Bool.and_self]) <;> fail))); (focus (first | ((simp only [go_sem, encM]) <;> fail) | rfl))) | refine vcP_safe (h15) rfl rfl (by (simp only [go_sem, encM])) ?_ | refine dCallP_safe (h15) rfl rfl ?_ | (refine vcP_pure (g15) rfl ?_ ?_ ?_; (focus (first | rfl | ((simp only [go_sem, encM, AV.pureL, AV.pure, pureL_mapI, Bool.and_self]) <;> fail))); (focus (first | ((simp only [go_sem, encM]) <;> fail) | rfl))) | (refine dCallP_pure (g15) rfl ?_ ?_ ?_; (focus (first | rfl | ((simp only [go_sem, encM, AV.pureL, AV.pure, pureL_mapI, Bool.and_self]) <;> fail))); (focus (first | ((simp only [go_sem, encM]) <;> fail) | rfl))) | refine vcP_safe (g15) rfl rfl (by (simp only [go_sem, encM])) ?_ | refine dCallP_safe (g15) rfl rfl ?_ | (refine vcP_pure (h25) rfl ?_ ?_ ?_; (focus (first | rfl | ((simp only [go_sem, encM, AV.pureL, AV.pure, pureL_mapI, Bool.and_self]) <;> fail))); (focus (first | ((simp only [go_sem, encM]) <;> fail) | rfl))) | (refine dCallP_pure (h25) rfl ?_ ?_ ?_; (focus (first | rfl | ((simp only [go_sem, encM, AV.pureL, AV.pure, pureL_mapI, Bool.and_self]) <;> fail))); (focus (first | ((simp only [go_sem, encM]) <;> fail) | rfl))) | refine vcP_safe (h25) rfl rfl (by (simp only [go_sem, encM])) ?_ | refine dCallP_safe (h25) rfl rfl ?_ | (refine vcP_pure (c18) rfl ?_ ?_ ?_; (focus (first | rfl | ((simp only [go_sem, encM, AV.pureL, AV.pure, pureL_mapI, Bool.and_self]) <;> fail))); (focus (first | ((simp only [go_sem, encM]) <;> fail) | rfl))) | (refine dCallP_pure (c18) rfl ?_ ?_ ?_; (focus (first | rfl | ((simp only [go_sem, encM, AV.pureL, AV.pure, pureL_mapI, Bool.and_self]) <;> fail))); (focus (first | ((simp only [go_sem, encM]) <;> fail) | rfl))) | refine vcP_safe (c18) rfl rfl (by (simp only [go_sem, encM])) ?_ | refine dCallP_safe (c18) rfl rfl ?_) | (simp only [go_sem, encM])))
    obtain ⟨a1, a2, a3⟩ := ha
    have hir : 0 ≤ i ∧ i < ts.length := by unfold within at a1; omega
    have h33 := c33 ts ms hv i c x hir a2 a3
    have g33 := c33 ts (m :: ms) hv' i c x hir a2 a3
    rw [oth_gv hv hv' hm hir] at g33
    have h50 := c50 ts ms i c
    have g50 := c50 ts (m :: ms) i c
    have h32 := c32 ts ms c
    have g32 := c32 ts (m :: ms) c
    rw [oth_time hv hv' hm a2] at g32
    have h19 := c19 ts ms hv c x a2 a3
    have g19 := c19 ts (m :: ms) hv' c x a2 a3
    have hbe : bestL ts (m :: ms) c x = bestL ts ms c x := by
      unfold bestL
      rw [same_best hv.things (fun k hk => (oth_mem hm k hk).symm) x]
    rw [hbe] at g19
    obtain ⟨cb0, _, _⟩ := bestL_bounds ts ms hv c x
    have cbn : ¬ costOf ts (bestL ts ms c x) < 0 := by omega
    have h37 := c37 ts ms c
    have g37 := c37 ts (m :: ms) c
    rw [oth_all hv hv' hm] at g37
    have hra : (rAll ts ms c).2 = 0 := by rw [show rAll ts ms c = _ from answer_yes ⟨hv, a2⟩]
    rw [hra] at h37 g37
    have h40 := c40 (rAll ts ms c).1 (rAll ts ms c).1
    rw [decide_eq_true rfl] at h40
    have t30 : ¬ (3 : Int) = 0 := by omega
    rcases oth_source hv hv' hm hir a2 with ⟨s1, s2⟩ | ⟨k, k0, s1, s2⟩
    · rw [s1] at h50
      rw [s2] at g50
      refine CV.run ?_
      (repeat' (first | ((first | with_reducible refine vcG_split ?_ ?_ | with_reducible refine vcIf_split ?_ ?_ | with_reducible refine vcQ_split ?_ ?_ | with_reducible refine vcDG_split ?_ ?_) <;> intro hb <;> (try rw [hb]) <;> (try simp only [Bool.and_eq_true, Bool.or_eq_true, dtrue, dfalse, Bool.not_eq_true', Bool.not_eq_false', Bool.and_eq_false_iff, Bool.or_eq_false_iff, Bool.not_true, Bool.not_false] at hb) <;> (try simp only [within] at hb) <;> try (simp only [go_sem, encM, hm, cbn, t30])) | refine And.intro (by (first | exact trivial | (simp only [I64]; omega) | omega)) ?_ | (first | (refine vcP_pure (h15) rfl ?_ ?_ ?_; (focus (first | rfl | ((simp only [go_sem, encM, hm, cbn, t30, AV.pureL, AV.pure, pureL_mapI, Bool.and_self]) <;> fail))); (focus (first | ((simp only [go_sem, encM, hm, cbn, t30]) <;> fail) | rfl))) | (refine dCallP_pure (h15) rfl ?_ ?_ ?_; (focus (first | rfl | ((simp only [go_sem, encM, hm, cbn, t30, AV.pureL, AV.pure, pureL_mapI, Bool.and_self]) <;> fail))); (focus (first | ((simp only [go_sem, encM, hm, cbn, t30]) <;> fail) | rfl))) | refine vcP_safe (h15) rfl rfl (by (simp only [go_sem, encM, hm, cbn, t30])) ?_ | refine dCallP_safe (h15) rfl rfl ?_ | (refine vcP_pure (g15) rfl ?_ ?_ ?_; (focus (first | rfl | ((simp only [go_sem, encM, hm, cbn, t30, AV.pureL, AV.pure, pureL_mapI, Bool.and_self]) <;> fail))); (focus (first | ((simp only [go_sem, encM, hm, cbn, t30]) <;> fail) | rfl))) | (refine dCallP_pure (g15) rfl ?_ ?_ ?_; (focus (first | rfl | ((simp only [go_sem, encM, hm, cbn, t30, AV.pureL, AV.pure, pureL_mapI, Bool.and_self]) <;> fail))); (focus (first | ((simp only [go_sem, encM, hm, cbn, t30]) <;> fail) | rfl))) | refine vcP_safe (g15) rfl rfl (by (simp only [go_sem, encM, hm, cbn, t30])) ?_ | refine dCallP_safe (g15) rfl rfl ?_ | (refine vcP_pure (h25) rfl ?_ ?_ ?_; (focus (first | rfl | ((simp only [go_sem, encM, hm, cbn, t30, AV.pureL, AV.pure, pureL_mapI, Bool.and_self]) <;> fail))); (focus (first | ((simp only [go_sem, encM, hm, cbn, t30]) <;> fail) | rfl))) | (refine dCallP_pure (h25) rfl ?_ ?_ ?_; (focus (first | rfl | ((simp only [go_sem, encM, hm, cbn, t30, AV.pureL, AV.pure, pureL_mapI, Bool.and_self]) <;> fail))); (focus (first | ((simp only [go_sem, encM, hm, cbn, t30]) <;> fail) | rfl))) | refine vcP_safe (h25) rfl rfl (by (simp only [go_sem, encM, hm, cbn, t30])) ?_ | refine dCallP_safe (h25) rfl rfl ?_ | (refine vcP_pure (h33) rfl ?_ ?_ ?_; (focus (first | rfl | ((simp only [go_sem, encM, hm, cbn, t30, AV.pureL, AV.pure, pureL_mapI, Bool.and_self]) <;> fail))); (focus (first | ((simp only [go_sem, encM, hm, cbn, t30]) <;> fail) | rfl))) | (refine dCallP_pure (h33) rfl ?_ ?_ ?_; (focus (first | rfl | ((simp only [go_sem, encM, hm, cbn, t30, AV.pureL, AV.pure, pureL_mapI, Bool.and_self]) <;> fail))); (focus (first | ((simp only [go_sem, encM, hm, cbn, t30]) <;> fail) | rfl))) | refine vcP_safe (h33) rfl rfl (by (simp only [go_sem, encM, hm, cbn, t30])) ?_ | refine dCallP_safe (h33) rfl rfl ?_ | (refine vcP_pure (g33) rfl ?_ ?_ ?_; (focus (first | rfl | ((simp only [go_sem, encM, hm, cbn, t30, AV.pureL, AV.pure, pureL_mapI, Bool.and_self]) <;> fail))); (focus (first | ((simp only [go_sem, encM, hm, cbn, t30]) <;> fail) | rfl))) | (refine dCallP_pure (g33) rfl ?_ ?_ ?_; (focus (first | rfl | ((simp only [go_sem, encM, hm, cbn, t30, AV.pureL, AV.pure, pureL_mapI, Bool.and_self]) <;> fail))); (focus (first | ((simp only [go_sem, encM, hm, cbn, t30]) <;> fail) | rfl))) | refine vcP_safe (g33) rfl rfl (by (simp only [go_sem, encM, hm, cbn, t30])) ?_ | refine dCallP_safe (g33) rfl rfl ?_ | (refine vcP_pure (h50) rfl ?_ ?_ ?_; (focus (first | rfl | ((simp only [go_sem, encM, hm, cbn, t30, AV.pureL, AV.pure, pureL_mapI, Bool.and_self]) <;> fail))); (focus (first | ((simp only [go_sem, encM, hm, cbn, t30]) <;> fail) | rfl))) | (refine dCallP_pure (h50) rfl ?_ ?_ ?_; (focus (first | rfl | ((simp only [go_sem, encM, hm, cbn, t30, AV.pureL, AV.pure, pureL_mapI, Bool.and_self]) <;> fail))); (focus (first | ((simp only [go_sem, encM, hm, cbn, t30]) <;> fail) | rfl))) | refine vcP_safe (h50) rfl rfl (by (simp only [go_sem, encM, hm, cbn, t30])) ?_ | refine dCallP_safe (h50) rfl rfl ?_ | (refine vcP_pure (g50) rfl ?_ ?_ ?_; (focus (first | rfl | ((simp only [go_sem, encM, hm, cbn, t30, AV.pureL, AV.pure, pureL_mapI, Bool.and_self]) <;> fail))); (focus (first | ((simp only [go_sem, encM, hm, cbn, t30]) <;> fail) | rfl))) | (refine dCallP_pure (g50) rfl ?_ ?_ ?_; (focus (first | rfl | ((simp only [go_sem, encM, hm, cbn, t30, AV.pureL, AV.pure, pureL_mapI, Bool.and_self]) <;> fail))); (focus (first | ((simp only [go_sem, encM, hm, cbn, t30]) <;> fail) | rfl))) | refine vcP_safe (g50) rfl rfl (by (simp only [go_sem, encM, hm, cbn, t30])) ?_ | refine dCallP_safe (g50) rfl rfl ?_ | (refine vcP_pure (h32) rfl ?_ ?_ ?_; (focus (first | rfl | ((simp only [go_sem, encM, hm, cbn, t30, AV.pureL, AV.pure, pureL_mapI, Bool.and_self]) <;> fail))); (focus (first | ((simp only [go_sem, encM, hm, cbn, t30]) <;> fail) | rfl))) | (refine dCallP_pure (h32) rfl ?_ ?_ ?_; (focus (first | rfl | ((simp only [go_sem, encM, hm, cbn, t30, AV.pureL, AV.pure, pureL_mapI, Bool.and_self]) <;> fail))); (focus (first | ((simp only [go_sem, encM, hm, cbn, t30]) <;> fail) | rfl))) | refine vcP_safe (h32) rfl rfl (by (simp only [go_sem, encM, hm, cbn, t30])) ?_ | refine dCallP_safe (h32) rfl rfl ?_ | (refine vcP_pure (g32) rfl ?_ ?_ ?_; (focus (first | rfl | ((simp only [go_sem, encM, hm, cbn, t30, AV.pureL, AV.pure, pureL_mapI, Bool.and_self]) <;> fail))); (focus (first | ((simp only [go_sem, encM, hm, cbn, t30]) <;> fail) | rfl))) | (refine dCallP_pure (g32) rfl ?_ ?_ ?_; (focus (first | rfl | ((simp only [go_sem, encM, hm, cbn, t30, AV.pureL, AV.pure, pureL_mapI, Bool.and_self]) <;> fail))); (focus (first | ((simp only [go_sem, encM, hm, cbn, t30]) <;> fail) | rfl))) | refine vcP_safe (g32) rfl rfl (by (simp only [go_sem, encM, hm, cbn, t30])) ?_ | refine dCallP_safe (g32) rfl rfl ?_ | (refine vcP_pure (h19) rfl ?_ ?_ ?_; (focus (first | rfl | ((simp only [go_sem, encM, hm, cbn, t30, AV.pureL, AV.pure, pureL_mapI, Bool.and_self]) <;> fail))); (focus (first | ((simp only [go_sem, encM, hm, cbn, t30]) <;> fail) | rfl))) | (refine dCallP_pure (h19) rfl ?_ ?_ ?_; (focus (first | rfl | ((simp only [go_sem, encM, hm, cbn, t30, AV.pureL, AV.pure, pureL_mapI, Bool.and_self]) <;> fail))); (focus (first | ((simp only [go_sem, encM, hm, cbn, t30]) <;> fail) | rfl))) | refine vcP_safe (h19) rfl rfl (by (simp only [go_sem, encM, hm, cbn, t30])) ?_ | refine dCallP_safe (h19) rfl rfl ?_ | (refine vcP_pure (g19) rfl ?_ ?_ ?_; (focus (first | rfl | ((simp only [go_sem, encM, hm, cbn, t30, AV.pureL, AV.pure, pureL_mapI, Bool.and_self]) <;> fail))); (focus (first | ((simp only [go_sem, encM, hm, cbn, t30]) <;> fail) | rfl))) | (refine dCallP_pure (g19) rfl ?_ ?_ ?_; (focus (first | rfl | ((simp only [go_sem, encM, hm, cbn, t30, AV.pureL, AV.pure, pureL_mapI, Bool.and_self]) <;> fail))); (focus (first | ((simp only [go_sem, encM, hm, cbn, t30]) <;> fail) | rfl))) | refine vcP_safe (g19) rfl rfl (by (simp only [go_sem, encM, hm, cbn, t30])) ?_ | refine dCallP_safe (g19) rfl rfl ?_ | (refine vcP_pure (h37) rfl ?_ ?_ ?_; (focus (first | rfl | ((simp only [go_sem, encM, hm, cbn, t30, AV.pureL, AV.pure, pureL_mapI, Bool.and_self]) <;> fail))); (focus (first | ((simp only [go_sem, encM, hm, cbn, t30]) <;> fail) | rfl))) | (refine dCallP_pure (h37) rfl ?_ ?_ ?_; (focus (first | rfl | ((simp only [go_sem, encM, hm, cbn, t30, AV.pureL, AV.pure, pureL_mapI, Bool.and_self]) <;> fail))); (focus (first | ((simp only [go_sem, encM, hm, cbn, t30]) <;> fail) | rfl))) | refine vcP_safe (h37) rfl rfl (by (simp only [go_sem, encM, hm, cbn, t30])) ?_ | refine dCallP_safe (h37) rfl rfl ?_ | (refine vcP_pure (g37) rfl ?_ ?_ ?_; (focus (first | rfl | ((simp only [go_sem, encM, hm, cbn, t30, AV.pureL, AV.pure, pureL_mapI, Bool.and_self]) <;> fail))); (focus (first | ((simp only [go_sem, encM, hm, cbn, t30]) <;> fail) | rfl))) | (refine dCallP_pure (g37) rfl ?_ ?_ ?_; (focus (first | rfl | ((simp only [go_sem, encM, hm, cbn, t30, AV.pureL, AV.pure, pureL_mapI, Bool.and_self]) <;> fail))); (focus (first | ((simp only [go_sem, encM, hm, cbn, t30]) <;> fail) | rfl))) | refine vcP_safe (g37) rfl rfl (by (simp only [go_sem, encM, hm, cbn, t30])) ?_ | refine dCallP_safe (g37) rfl rfl ?_ | (refine vcP_pure (h40) rfl ?_ ?_ ?_; (focus (first | rfl | ((simp only [go_sem, encM, hm, cbn, t30, AV.pureL, AV.pure, pureL_mapI, Bool.and_self]) <;> fail))); (focus (first | ((simp only [go_sem, encM, hm, cbn, t30]) <;> fail) | rfl))) | (refine dCallP_pure (h40) rfl ?_ ?_ ?_; (focus (first | rfl | ((simp only [go_sem, encM, hm, cbn, t30, AV.pureL, AV.pure, pureL_mapI, Bool.and_self]) <;> fail))); (focus (first | ((simp only [go_sem, encM, hm, cbn, t30]) <;> fail) | rfl))) | refine vcP_safe (h40) rfl rfl (by (simp only [go_sem, encM, hm, cbn, t30])) ?_ | refine dCallP_safe (h40) rfl rfl ?_ | (refine vcP_pure (c18) rfl ?_ ?_ ?_; (focus (first | rfl | ((simp only [go_sem, encM, hm, cbn, t30, AV.pureL, AV.pure, pureL_mapI, Bool.and_self]) <;> fail))); (focus (first | ((simp only [go_sem, encM, hm, cbn, t30]) <;> fail) | rfl))) | (refine dCallP_pure (c18) rfl ?_ ?_ ?_; (focus (first | rfl | ((simp only [go_sem, encM, hm, cbn, t30, AV.pureL, AV.pure, pureL_mapI, Bool.and_self]) <;> fail))); (focus (first | ((simp only [go_sem, encM, hm, cbn, t30]) <;> fail) | rfl))) | refine vcP_safe (c18) rfl rfl (by (simp only [go_sem, encM, hm, cbn, t30])) ?_ | refine dCallP_safe (c18) rfl rfl ?_) | (simp only [go_sem, encM, hm, cbn, t30])))
      all_goals trace_state
    · rw [s1] at h50
      rw [s2] at g50
      have k0' : ¬ k < 0 := by omega
      have k1 : I64 (k + 1) := ⟨by omega, by omega⟩
      refine CV.run ?_
      (repeat' (first | ((first | with_reducible refine vcG_split ?_ ?_ | with_reducible refine vcIf_split ?_ ?_ | with_reducible refine vcQ_split ?_ ?_ | with_reducible refine vcDG_split ?_ ?_) <;> intro hb <;> (try rw [hb]) <;> (try simp only [Bool.and_eq_true, Bool.or_eq_true, dtrue, dfalse, Bool.not_eq_true', Bool.not_eq_false', Bool.and_eq_false_iff, Bool.or_eq_false_iff, Bool.not_true, Bool.not_false] at hb) <;> (try simp only [within] at hb) <;> try (simp only [go_sem, encM, hm, cbn, t30, k0', k1])) | refine And.intro (by (first | exact trivial | (simp only [I64]; omega) | omega)) ?_ | (first | (refine vcP_pure (h15) rfl ?_ ?_ ?_; (focus (first | rfl | ((simp only [go_sem, encM, hm, cbn, t30, k0', k1, AV.pureL, AV.pure, pureL_mapI, Bool.and_self]) <;> fail))); (focus (first | ((simp only [go_sem, encM, hm, cbn, t30, k0', k1]) <;> fail) | rfl))) | (refine dCallP_pure (h15) rfl ?_ ?_ ?_; (focus (first | rfl | ((simp only [go_sem, encM, hm, cbn, t30, k0', k1, AV.pureL, AV.pure, pureL_mapI, Bool.and_self]) <;> fail))); (focus (first | ((simp only [go_sem, encM, hm, cbn, t30, k0', k1]) <;> fail) | rfl))) | refine vcP_safe (h15) rfl rfl (by (simp only [go_sem, encM, hm, cbn, t30, k0', k1])) ?_ | refine dCallP_safe (h15) rfl rfl ?_ | (refine vcP_pure (g15) rfl ?_ ?_ ?_; (focus (first | rfl | ((simp only [go_sem, encM, hm, cbn, t30, k0', k1, AV.pureL, AV.pure, pureL_mapI, Bool.and_self]) <;> fail))); (focus (first | ((simp only [go_sem, encM, hm, cbn, t30, k0', k1]) <;> fail) | rfl))) | (refine dCallP_pure (g15) rfl ?_ ?_ ?_; (focus (first | rfl | ((simp only [go_sem, encM, hm, cbn, t30, k0', k1, AV.pureL, AV.pure, pureL_mapI, Bool.and_self]) <;> fail))); (focus (first | ((simp only [go_sem, encM, hm, cbn, t30, k0', k1]) <;> fail) | rfl))) | refine vcP_safe (g15) rfl rfl (by (simp only [go_sem, encM, hm, cbn, t30, k0', k1])) ?_ | refine dCallP_safe (g15) rfl rfl ?_ | (refine vcP_pure (h25) rfl ?_ ?_ ?_; (focus (first | rfl | ((simp only [go_sem, encM, hm, cbn, t30, k0', k1, AV.pureL, AV.pure, pureL_mapI, Bool.and_self]) <;> fail))); (focus (first | ((simp only [go_sem, encM, hm, cbn, t30, k0', k1]) <;> fail) | rfl))) | (refine dCallP_pure (h25) rfl ?_ ?_ ?_; (focus (first | rfl | ((simp only [go_sem, encM, hm, cbn, t30, k0', k1, AV.pureL, AV.pure, pureL_mapI, Bool.and_self]) <;> fail))); (focus (first | ((simp only [go_sem, encM, hm, cbn, t30, k0', k1]) <;> fail) | rfl))) | refine vcP_safe (h25) rfl rfl (by (simp only [go_sem, encM, hm, cbn, t30, k0', k1])) ?_ | refine dCallP_safe (h25) rfl rfl ?_ | (refine vcP_pure (h33) rfl ?_ ?_ ?_; (focus (first | rfl | ((simp only [go_sem, encM, hm, cbn, t30, k0', k1, AV.pureL, AV.pure, pureL_mapI, Bool.and_self]) <;> fail))); (focus (first | ((simp only [go_sem, encM, hm, cbn, t30, k0', k1]) <;> fail) | rfl))) | (refine dCallP_pure (h33) rfl ?_ ?_ ?_; (focus (first | rfl | ((simp only [go_sem, encM, hm, cbn, t30, k0', k1, AV.pureL, AV.pure, pureL_mapI, Bool.and_self]) <;> fail))); (focus (first | ((simp only [go_sem, encM, hm, cbn, t30, k0', k1]) <;> fail) | rfl))) | refine vcP_safe (h33) rfl rfl (by (simp only [go_sem, encM, hm, cbn, t30, k0', k1])) ?_ | refine dCallP_safe (h33) rfl rfl ?_ | (refine vcP_pure (g33) rfl ?_ ?_ ?_; (focus (first | rfl | ((simp only [go_sem, encM, hm, cbn, t30, k0', k1, AV.pureL, AV.pure, pureL_mapI, Bool.and_self]) <;> fail))); (focus (first | ((simp only [go_sem, encM, hm, cbn, t30, k0', k1]) <;> fail) | rfl))) | (refine dCallP_pure (g33) rfl ?_ ?_ ?_; (focus (first | rfl | ((simp only [go_sem, encM, hm, cbn, t30, k0', k1, AV.pureL, AV.pure, pureL_mapI, Bool.and_self]) <;> fail))); (focus (first | ((simp only [go_sem, encM, hm, cbn, t30, k0', k1]) <;> fail) | rfl))) | refine vcP_safe (g33) rfl rfl (by (simp only [go_sem, encM, hm, cbn, t30, k0', k1])) ?_ | refine dCallP_safe (g33) rfl rfl ?_ | (refine vcP_pure (h50) rfl ?_ ?_ ?_; (focus (first | rfl | ((simp only [go_sem, encM, hm, cbn, t30, k0', k1, AV.pureL, AV.pure, pureL_mapI, Bool.and_self]) <;> fail))); (focus (first | ((simp only [go_sem, encM, hm, cbn, t30, k0', k1]) <;> fail) | rfl))) | (refine dCallP_pure (h50) rfl ?_ ?_ ?_; (focus (first | rfl | ((simp only [go_sem, encM, hm, cbn, t30, k0', k1, AV.pureL, AV.pure, pureL_mapI, Bool.and_self]) <;> fail))); (focus (first | ((simp only [go_sem, encM, hm, cbn, t30, k0', k1]) <;> fail) | rfl))) | refine vcP_safe (h50) rfl rfl (by (simp only [go_sem, encM, hm, cbn, t30, k0', k1])) ?_ | refine dCallP_safe (h50) rfl rfl ?_ | (refine vcP_pure (g50) rfl ?_ ?_ ?_; (focus (first | rfl | ((simp only [go_sem, encM, hm, cbn, t30, k0', k1, AV.pureL, AV.pure, pureL_mapI, Bool.and_self]) <;> fail))); (focus (first | ((simp only [go_sem, encM, hm, cbn, t30, k0', k1]) <;> fail) | rfl))) | (refine dCallP_pure (g50) rfl ?_ ?_ ?_; (focus (first | rfl | ((simp only [go_sem, encM, hm, cbn, t30, k0', k1, AV.pureL, AV.pure, pureL_mapI, Bool.and_self]) <;> fail))); (focus (first | ((simp only [go_sem, encM, hm, cbn, t30, k0', k1]) <;> fail) | rfl))) | refine vcP_safe (g50) rfl rfl (by (simp only [go_sem, encM, hm, cbn, t30, k0', k1])) ?_ | refine dCallP_safe (g50) rfl rfl ?_ | (refine vcP_pure (h32) rfl ?_ ?_ ?_; (focus (first | rfl | ((simp only [go_sem, encM, hm, cbn, t30, k0', k1, AV.pureL, AV.pure, pureL_mapI, Bool.and_self]) <;> fail))); (focus (first | ((simp only [go_sem, encM, hm, cbn, t30, k0', k1]) <;> fail) | rfl))) | (refine dCallP_pure (h32) rfl ?_ ?_ ?_; (focus (first | rfl | ((simp only [go_sem, encM, hm, cbn, t30, k0', k1, AV.pureL, AV.pure, pureL_mapI, Bool.and_self]) <;> fail))); (focus (first | ((simp only [go_sem, encM, hm, cbn, t30, k0', k1]) <;> fail) | rfl))) | refine vcP_safe (h32) rfl rfl (by (simp only [go_sem, encM, hm, cbn, t30, k0', k1])) ?_ | refine dCallP_safe (h32) rfl rfl ?_ | (refine vcP_pure (g32) rfl ?_ ?_ ?_; (focus (first | rfl | ((simp only [go_sem, encM, hm, cbn, t30, k0', k1, AV.pureL, AV.pure, pureL_mapI, Bool.and_self]) <;> fail))); (focus (first | ((simp only [go_sem, encM, hm, cbn, t30, k0', k1]) <;> fail) | rfl))) | (refine dCallP_pure (g32) rfl ?_ ?_ ?_; (focus (first | rfl | ((simp only [go_sem, encM, hm, cbn, t30, k0', k1, AV.pureL, AV.pure, pureL_mapI, Bool.and_self]) <;> fail))); (focus (first | ((simp only [go_sem, encM, hm, cbn, t30, k0', k1]) <;> fail) | rfl))) | refine vcP_safe (g32) rfl rfl (by (simp only [go_sem, encM, hm, cbn, t30, k0', k1])) ?_ | refine dCallP_safe (g32) rfl rfl ?_ | (refine vcP_pure (h19) rfl ?_ ?_ ?_; (focus (first | rfl | ((simp only [go_sem, encM, hm, cbn, t30, k0', k1, AV.pureL, AV.pure, pureL_mapI, Bool.and_self]) <;> fail))); (focus (first | ((simp only [go_sem, encM, hm, cbn, t30, k0', k1]) <;> fail) | rfl))) | (refine dCallP_pure (h19) rfl ?_ ?_ ?_; (focus (first | rfl | ((simp only [go_sem, encM, hm, cbn, t30, k0', k1, AV.pureL, AV.pure, pureL_mapI, Bool.and_self]) <;> fail))); (focus (first | ((simp only [go_sem, encM, hm, cbn, t30, k0', k1]) <;> fail) | rfl))) | refine vcP_safe (h19) rfl rfl (by (simp only [go_sem, encM, hm, cbn, t30, k0', k1])) ?_ | refine dCallP_safe (h19) rfl rfl ?_ | (refine vcP_pure (g19) rfl ?_ ?_ ?_; (focus (first | rfl | ((simp only [go_sem, encM, hm, cbn, t30, k0', k1, AV.pureL, AV.pure, pureL_mapI, Bool.and_self]) <;> fail))); (focus (first | ((simp only [go_sem, encM, hm, cbn, t30, k0', k1]) <;> fail) | rfl))) | (refine dCallP_pure (g19) rfl ?_ ?_ ?_; (focus (first | rfl | ((simp only [go_sem, encM, hm, cbn, t30, k0', k1, AV.pureL, AV.pure, pureL_mapI, Bool.and_self]) <;> fail))); (focus (first | ((simp only [go_sem, encM, hm, cbn, t30, k0', k1]) <;> fail) | rfl))) | refine vcP_safe (g19) rfl rfl (by (simp only [go_sem, encM, hm, cbn, t30, k0', k1])) ?_ | refine dCallP_safe (g19) rfl rfl ?_ | (refine vcP_pure (h37) rfl ?_ ?_ ?_; (focus (first | rfl | ((simp only [go_sem, encM, hm, cbn, t30, k0', k1, AV.pureL, AV.pure, pureL_mapI, Bool.and_self]) <;> fail))); (focus (first | ((simp only [go_sem, encM, hm, cbn, t30, k0', k1]) <;> fail) | rfl))) | (refine dCallP_pure (h37) rfl ?_ ?_ ?_; (focus (first | rfl | ((simp only [go_sem, encM, hm, cbn, t30, k0', k1, AV.pureL, AV.pure, pureL_mapI, Bool.and_self]) <;> fail))); (focus (first | ((simp only [go_sem, encM, hm, cbn, t30, k0', k1]) <;> fail) | rfl))) | refine vcP_safe (h37) rfl rfl (by (simp only [go_sem, encM, hm, cbn, t30, k0', k1])) ?_ | refine dCallP_safe (h37) rfl rfl ?_ | (refine vcP_pure (g37) rfl ?_ ?_ ?_; (focus (first | rfl | ((simp only [go_sem, encM, hm, cbn, t30, k0', k1, AV.pureL, AV.pure, pureL_mapI, Bool.and_self]) <;> fail))); (focus (first | ((simp only [go_sem, encM, hm, cbn, t30, k0', k1]) <;> fail) | rfl))) | (refine dCallP_pure (g37) rfl ?_ ?_ ?_; (focus (first | rfl | ((simp only [go_sem, encM, hm, cbn, t30, k0', k1, AV.pureL, AV.pure, pureL_mapI, Bool.and_self]) <;> fail))); (focus (first | ((simp only [go_sem, encM, hm, cbn, t30, k0', k1]) <;> fail) | rfl))) | refine vcP_safe (g37) rfl rfl (by (simp only [go_sem, encM, hm, cbn, t30, k0', k1])) ?_ | refine dCallP_safe (g37) rfl rfl ?_ | (refine vcP_pure (h40) rfl ?_ ?_ ?_; (focus (first | rfl | ((simp only [go_sem, encM, hm, cbn, t30, k0', k1, AV.pureL, AV.pure, pureL_mapI, Bool.and_self]) <;> fail))); (focus (first | ((simp only [go_sem, encM, hm, cbn, t30, k0', k1]) <;> fail) | rfl))) | (refine dCallP_pure (h40) rfl ?_ ?_ ?_; (focus (first | rfl | ((simp only [go_sem, encM, hm, cbn, t30, k0', k1, AV.pureL, AV.pure, pureL_mapI, Bool.and_self]) <;> fail))); (focus (first | ((simp only [go_sem, encM, hm, cbn, t30, k0', k1]) <;> fail) | rfl))) | refine vcP_safe (h40) rfl rfl (by (simp only [go_sem, encM, hm, cbn, t30, k0', k1])) ?_ | refine dCallP_safe (h40) rfl rfl ?_ | (refine vcP_pure (c18) rfl ?_ ?_ ?_; (focus (first | rfl | ((simp only [go_sem, encM, hm, cbn, t30, k0', k1, AV.pureL, AV.pure, pureL_mapI, Bool.and_self]) <;> fail))); (focus (first | ((simp only [go_sem, encM, hm, cbn, t30, k0', k1]) <;> fail) | rfl))) | (refine dCallP_pure (c18) rfl ?_ ?_ ?_; (focus (first | rfl | ((simp only [go_sem, encM, hm, cbn, t30, k0', k1, AV.pureL, AV.pure, pureL_mapI, Bool.and_self]) <;> fail))); (focus (first | ((simp only [go_sem, encM, hm, cbn, t30, k0', k1]) <;> fail) | rfl))) | refine vcP_safe (c18) rfl rfl (by (simp only [go_sem, encM, hm, cbn, t30, k0', k1])) ?_ | refine dCallP_safe (c18) rfl rfl ?_) | (simp only [go_sem, encM, hm, cbn, t30, k0', k1])))
      all_goals trace_state
end Go.Proofs.Ytllmohmgakdbdaa
