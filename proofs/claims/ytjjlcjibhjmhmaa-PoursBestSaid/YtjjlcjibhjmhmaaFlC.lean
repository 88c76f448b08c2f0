/- A framework of general lemmas over the model (an abstract machine); no statement of the seat is proved here, and none has a condition. -/
import Derived.Test.YtjjlcjibhjmhmaaFlB
set_option linter.unusedSectionVars false
set_option linter.unusedSimpArgs false
set_option linter.unusedVariables false
namespace Go.Fl
open Go.RowKit
theorem HCY.of_body2x {P : Program} {l nt p p2 : Nat} {assign body : Code} {env : Env} {own : Heap} {x x2 : AV} {H H' : Heap} (hp : p < nt) (hp2 : p2 < nt) (hlen : H'.length = H.length) (hb : belowH H.length H) (henv : belowE H.length env) (hx : x.pure = true) (hx2 : x2.pure = true)
    (h : VC P nt H.length (fun _ _ => False) [.code assign, .back (fun s => VC P nt H.length (fun e s => e = .ret ∧ Wn H.length s ⟨[], H'⟩) [.code body] s)] ⟨(p2, x2) :: (p, x) :: env, H⟩) :
    HCY P l [x, x2] (H ++ .loop l nt #[p, p2] assign body env :: own) fun r H2 => r = .bool false ∧ H2 = H' ++ .lpx l :: own := by
  intro F κ cargs hF hc hH hv
  have hn : H.length < κ.H.length := by rw [hH]; simp
  have htk : κ.H.take H.length = H := by rw [hH]; simp
  have hdr : κ.H.drop H.length = .loop l nt #[p, p2] assign body env :: own := by rw [hH]; simp
  have hlb : κ.H[H.length]? = some (.loop l nt #[p, p2] assign body env) := by rw [hH]; simp
  obtain ⟨b1, b2, fn, tmps, dfr, b3, b4, b5, b6⟩ := hc.blk _ _ hlb
  obtain ⟨cx, _, rfl, hvx, cx2, _, rfl, hvx2, hnil⟩ := hv
  rw [show _ = [] from hnil]
  have hy : (Instr.yield l [cx, cx2].toArray).run P κ.w = .ok (.round l fn ((tmps.setIfInBounds p cx).setIfInBounds p2 cx2) assign body) κ.w := by
    have := run_yield (P := P) (args := #[cx, cx2]) b3 (by simp)
    simpa using this
  refine ⟨fn, _, assign, body, hy, roundIn_of_wpIn (hF.fn fn) ?_⟩
  have hE0 : Conc { κ with H := κ.H.take H.length } := hc.trunc (by rw [htk]; exact hb)
  have hno : ¬ Owned { κ with H := κ.H.take H.length } l := fun ⟨b', q1, q2, q3⟩ => by
    have q1 : b' < (κ.H.take H.length).length := q1
    rw [List.length_take] at q1
    have := hc.inj b' H.length (by omega) hn q2 b1 (by rw [b2]; exact q3)
    omega
  have hWF : WideE (F.inRound l) { κ with H := κ.H.take H.length } := by
    refine ⟨.inr ⟨l, ?_⟩, fun l' hl' => ?_⟩
    · rcases hF with rfl | ⟨l0, rfl⟩ <;> rfl
    · simp only [Fence.inRound_round, Option.some.injEq] at hl'
      subst hl'
      exact ⟨hno, _, b3⟩
  have hgood : Good nt { κ with H := κ.H.take H.length } ⟨(p2, x2) :: (p, x) :: env, H⟩ { tmps := (tmps.setIfInBounds p cx).setIfInBounds p2 cx2, defers := [] } κ.w := by
    refine ⟨{ κ with H := κ.H.take H.length }, rfl, htk, hE0, .refl _, by simp [b4], fun t => ?_, by simp, fun d hd => by cases hd⟩
    by_cases e2 : p2 = t
    · subst e2
      simp only [eget, if_true]
      have : ((tmps.setIfInBounds p cx).setIfInBounds p2 cx2).getD p2 undef = cx2 := by simp [b4, hp2]
      rw [this]
      exact V.trunc _ _ (below_pure _ _ hx2) hvx2
    · by_cases e : p = t
      · subst e
        simp only [eget, if_neg e2, if_true]
        have : ((tmps.setIfInBounds p cx).setIfInBounds p2 cx2).getD p undef = cx := by
          simp only [Array.getD_eq_getD_getElem?, Array.getElem?_setIfInBounds_ne e2]
          simp [b4, hp]
        rw [this]
        exact V.trunc _ _ (below_pure _ _ hx) hvx
      · simp only [eget, if_neg e, if_neg e2]
        have : ((tmps.setIfInBounds p cx).setIfInBounds p2 cx2).getD t undef = tmps.getD t undef := by
          simp only [Array.getD_eq_getD_getElem?, Array.getElem?_setIfInBounds_ne e, Array.getElem?_setIfInBounds_ne e2]
        rw [this]
        exact V.trunc _ _ (belowE_get t henv) (b5 t)
  have hm : ({ κ with H := κ.H.take H.length } : Cx).H.length = H.length := by show (κ.H.take H.length).length = _; rw [htk]
  refine wpIn_mono (h (F.inRound l) _ _ κ.w hWF hm hgood) ?_
  intro e a1 w1 hp1
  cases e with
  | normal =>
    obtain ⟨s1, hbody, hg1⟩ := hp1
    obtain ⟨hl1, hg2⟩ := Good.put2 (hg := hg1) (E := { κ with H := κ.H.take H.length }) (o' := .loop { state := .busy, pending := none, fn := fn, tmps := tmps, params := #[p, p2], assign := assign, body := body, defers := dfr }) b3 rfl rfl hno
    refine ⟨_, run_beginRound hl1 rfl, ?_⟩
    have hbl : (κ.w.putObj l (.loop { state := .busy, pending := none, fn := fn, tmps := tmps, params := #[p, p2], assign := assign, body := body, defers := dfr })).heap[l]? = some (.loop { state := .busy, pending := none, fn := fn, tmps := tmps, params := #[p, p2], assign := assign, body := body, defers := dfr }) := World.putObj_heap_same (Array.getElem?_eq_some_iff.1 b3).1
    have hWF2 : WideE (F.inRound l) { κ with H := κ.H.take H.length, w := κ.w.putObj l (.loop { state := .busy, pending := none, fn := fn, tmps := tmps, params := #[p, p2], assign := assign, body := body, defers := dfr }) } := by
      refine ⟨hWF.1, fun l' hl' => ?_⟩
      simp only [Fence.inRound_round, Option.some.injEq] at hl'
      subst hl'
      exact ⟨hno, _, hbl⟩
    refine wpIn_mono (hbody (F.inRound l) _ a1 _ hWF2 hm hg2) ?_
    intro e a3 w3 hp3
    cases e with
    | ret =>
      obtain ⟨s3, ⟨_, hw3⟩, hg3⟩ := hp3
      have hg4 := hw3.good (E := { κ with H := κ.H.take H.length, w := κ.w.putObj l (.loop { state := .busy, pending := none, fn := fn, tmps := tmps, params := #[p, p2], assign := assign, body := body, defers := dfr }) }) hm hg3
      obtain ⟨hl3, hg5⟩ := Good.put2 (hg := hg4) (E := { κ with H := κ.H.take H.length, w := κ.w.putObj l (.loop { state := .busy, pending := none, fn := fn, tmps := tmps, params := #[p, p2], assign := assign, body := body, defers := dfr }) }) (o' := .loop { state := .done, pending := some .ret, fn := fn, tmps := tmps, params := #[p, p2], assign := assign, body := body, defers := dfr }) hbl rfl rfl hno
      refine ⟨_, _, run_endRound (some .ret) hl3, ?_⟩
      have hx := hc.mod (w' := κ.w.putObj l (.loop { state := .done, pending := some .ret, fn := fn, tmps := tmps, params := #[p, p2], assign := assign, body := body, defers := dfr })) H.length (κ.ρ H.length) _ (.lpx l) hlb rfl rfl rfl (by simp)
        (fun g _ hg => World.putObj_heap_other (by rw [← b2]; exact hg b1)) (fun g o _ => putObj_cell b3 rfl rfl g o) (fun _ => ⟨.inl rfl, by rw [b2]; simpa using (Array.getElem?_eq_some_iff.1 b3).1⟩) ⟨rfl, rfl⟩
        (fun _ => ⟨by simp only [upd_same]; exact b1, by simp only [upd_same]; exact b2, ⟨_, World.putObj_heap_same (Array.getElem?_eq_some_iff.1 b3).1, by simp, rfl⟩, b6⟩)
      have hup : upd κ.ρ H.length (κ.ρ H.length) = κ.ρ := by
        funext b
        by_cases e : b = H.length
        · subst e; simp
        · exact upd_other _ _ e
      rw [hup] at hx
      obtain ⟨hcx, hsx⟩ := hx
      have hHx : κ.H.set H.length (.lpx l) = H ++ .lpx l :: own := by rw [hH]; simp
      have hback : ({ κ with H := κ.H.take H.length, w := (κ.w.putObj l (.loop { state := .busy, pending := none, fn := fn, tmps := tmps, params := #[p, p2], assign := assign, body := body, defers := dfr })).putObj l (.loop { state := .done, pending := some .ret, fn := fn, tmps := tmps, params := #[p, p2], assign := assign, body := body, defers := dfr }) } : Cx) = { S := κ.S, w := κ.w.putObj l (.loop { state := .done, pending := some .ret, fn := fn, tmps := tmps, params := #[p, p2], assign := assign, body := body, defers := dfr }), ρ := κ.ρ, H := (κ.H.set H.length (.lpx l)).take H.length } := by
        rw [hHx, htk]
        simp [World.putObj]
      have hg5 := hback ▸ hg5
      obtain ⟨κ4, e1, e2, e3, e4, _⟩ := hg5
      have hl4 : κ4.H.length = H.length := by rw [e2]; exact hlen
      obtain ⟨j1, j2⟩ := join hcx e3 e4 hl4 (by show H.length ≤ (κ.H.set H.length (.lpx l)).length; rw [hHx]; simp)
      refine ⟨.bool false, .bool false, { S := κ4.S, w := κ4.w, ρ := fun b => if b < H.length then κ4.ρ b else κ.ρ b, H := κ4.H ++ (κ.H.set H.length (.lpx l)).drop H.length }, rfl, ⟨rfl, ?_⟩, e1, j1, hsx.trans j2, rfl⟩
      show κ4.H ++ (κ.H.set H.length (.lpx l)).drop H.length = _
      rw [e2, hHx]; simp
    | normal => obtain ⟨_, ⟨hf, _⟩, _⟩ := hp3; cases hf
    | exit id => obtain ⟨_, ⟨hf, _⟩, _⟩ := hp3; cases hf
    | goto t => obtain ⟨_, ⟨hf, _⟩, _⟩ := hp3; cases hf
    | panic c => obtain ⟨_, ⟨hf, _⟩, _⟩ := hp3; cases hf
    | outgrown => obtain ⟨_, ⟨hf, _⟩, _⟩ := hp3; cases hf
  | ret => obtain ⟨_, hf, _⟩ := hp1; exact hf.elim
  | exit id => obtain ⟨_, hf, _⟩ := hp1; exact hf.elim
  | goto t => obtain ⟨_, hf, _⟩ := hp1; exact hf.elim
  | panic c => obtain ⟨_, hf, _⟩ := hp1; exact hf.elim
  | outgrown => obtain ⟨_, hf, _⟩ := hp1; exact hf.elim
section
variable {P : Program} {nt m : Nat} {R : Exit → St → Prop} {k : List It} {st : St}
theorem VC.rangeX {g : Operand} {ps : Array Tmp} {assign body : Code} {gf : Nat} {caps : List AV} (hg : evA st.env g = .fn gf caps) (hm : m ≤ st.H.length)
    (h : ∀ l, HCH P gf (.yld l :: caps) (st.H ++ [.loop l nt ps assign body st.env]) fun r H' =>
      ∃ H2 x rest, H' = H2 ++ x :: rest ∧ H2.length = st.H.length ∧ belowH H2.length H2 ∧ belowE H2.length st.env ∧ ((x = .loop l nt ps assign body st.env ∧ VC P nt m R k ⟨st.env, H2⟩) ∨ (x = .lpx l ∧ R .ret ⟨st.env, H2⟩))) :
    VC P nt m R (.code (.rangeFunc g ps assign body) :: k) st := by
  intro F E a w hF hE hgd
  obtain ⟨κ, rfl, h2, h3, h4, h5, h6, h7, h8⟩ := hgd.rho
  simp only [post]
  refine wpIn_rangeFunc ?_
  intro fn _
  obtain ⟨l, mark, w1, q1, q2, q3, q4, q5, q6, q7, ⟨dfr, q8⟩, q9⟩ := enter_loopP (P := P) (a := a) (ps := ps) (assign := assign) (body := body) hF h4 fn
  have hfv := h8.ev g
  rw [hg] at hfv
  obtain ⟨cc, e1, hl⟩ := hfv
  obtain ⟨c1, s1⟩ := h3.push (w' := w1) { blk := l, cap := 0, isNil := false } (.loop l nt ps assign body st.env) q2 q3 q4 (by omega) q7 (fun _ => ⟨q5, q6⟩) (fun hk => by
    simp only [BlkOk, upd_same]
    refine ⟨trivial, trivial, fn, a.tmps, dfr, q8, h5, fun t => V.mono hk _ _ (h6 t), fun o hS => ?_⟩
    have := h3.swf l o hS; omega)
  have hcall := (h l).2 { S := κ.S, w := w1, ρ := upd κ.ρ κ.H.length { blk := l, cap := 0, isNil := false }, H := κ.H ++ [.loop l nt ps assign body st.env] } (.func (.yield l) #[] #[] :: cc.toList) c1 (by simp only [h2]) ⟨_, _, rfl, rfl, VL.mono s1.toKeep _ _ hl⟩
  refine ⟨l, mark, w1, { target := .fn (.func gf) cc, args := #[.func (.yield l) #[] #[]] }, w1, gf, #[.func (.yield l) #[] #[]] ++ cc, w1, q1, ?_, ?_, ?_, ?_, ?_⟩
  · simp only [resolve, e1]
    simp [go_sem]
  · intro f' hf'; exact hF.1.fn _
  · simp [invoke, go_sem, (h l).1]
  · intro hd; rw [hF.1.depth] at hd; cases hd
  · have hargs : (.func (.yield l) #[] #[] :: cc.toList : List Value).toArray = #[.func (.yield l) #[] #[]] ++ cc := by apply Array.toList_inj.1; simp
    rw [hargs] at hcall
    refine hF.1.calls (hcall.mono ?_)
    rintro e w' ⟨r, c, κ', rfl, ⟨H2, x, rest, hH, hlen, hbH, hbE, hv⟩, rfl, k1, k2, _⟩
    have hn : H2.length < κ'.H.length := by rw [hH]; simp
    have htk : κ'.H.take H2.length = H2 := by rw [hH]; simp
    have hlb : κ'.H[H2.length]? = some x := by rw [hH]; simp
    have hbx : (κ'.ρ H2.length).isNil = false ∧ (κ'.ρ H2.length).blk = l ∧ ∃ rec : Loop, κ'.w.heap[l]? = some (.loop rec) ∧ rec.state ≠ .busy ∧ ((rec.pending = none ∧ VC P nt m R k ⟨st.env, H2⟩) ∨ (rec.pending = some .ret ∧ R .ret ⟨st.env, H2⟩)) := by
      have hok := k1.blk _ _ hlb
      rcases hv with ⟨rfl, hv⟩ | ⟨rfl, hv⟩
      · obtain ⟨b1, b2, fn', tmps', dfr', b3, _⟩ := hok
        exact ⟨b1, b2, _, b3, by simp, .inl ⟨rfl, hv⟩⟩
      · obtain ⟨b1, b2, ⟨rec, b3, b4, b5⟩, _⟩ := hok
        exact ⟨b1, b2, rec, b3, b4, .inr ⟨b5, hv⟩⟩
    obtain ⟨b1, b2, rec, b3, b4, hv⟩ := hbx
    refine ⟨_, _, run_endLoop b3 b4, ?_⟩
    have s2 := h4.trans (s1.trans k2)
    have hct : Conc { κ' with H := κ'.H.take H2.length } := k1.trunc (by rw [htk]; exact hbH)
    have hno : ¬ Owned { κ' with H := κ'.H.take H2.length } l := fun ⟨b', r1, r2, r3⟩ => by
      have r1 : b' < (κ'.H.take H2.length).length := r1
      rw [List.length_take] at r1
      have := k1.inj b' H2.length (by omega) hn r2 b1 (by rw [b2]; exact r3)
      omega
    obtain ⟨d1, d2, d3⟩ := hct.putObj (o' := .loop { rec with state := .exhausted }) b3 rfl rfl hno
    have hEm : E.H.length ≤ H2.length := by omega
    have hsz : E.w.heap.size ≤ l := Nat.le_trans h4.size q5
    have hgood : Good nt E ⟨st.env, H2⟩ { a with defers := mark ++ a.defers } (κ'.w.putObj l (.loop { rec with state := .exhausted })) := ?_
    · rcases hv with ⟨e, hv⟩ | ⟨e, hv⟩
      · rw [e] at hgood ⊢; exact hv F E _ _ hF hE hgood
      · rw [e] at hgood ⊢; exact wpIn_ret (post_ret ⟨_, hv, hgood⟩)
    refine ⟨_, rfl, htk, d1, d2 E hsz (s2.trunc hEm), h5, fun t => ?_, ?_, ?_⟩
    · exact V.mono d3 _ _ (V.trunc _ _ (belowE_get t hbE) (V.mono (s1.trans k2).toKeep _ _ (h6 t)))
    · rcases q9 with rfl | ⟨D, rfl, q10, _⟩
      · exact h7.1
      · refine List.nodup_cons.2 ⟨fun hmem => ?_, h7.1⟩
        obtain ⟨D', z1, z2, _⟩ := h7.2 _ hmem
        have := (Array.getElem?_eq_some_iff.1 z2).1
        have : D = D' := by simpa using z1
        omega
    · have old : ∀ D, κ'.w.heap[D]? = some (.deferred (some [])) → E.w.heap.size ≤ D → ¬ Owned κ' D → D ≠ l → ∃ D', ({ target := .collected D, args := #[] } : Deferred) = { target := .collected D', args := #[] } ∧ (κ'.w.putObj l (.loop { rec with state := .exhausted })).heap[D']? = some (.deferred (some [])) ∧ E.w.heap.size ≤ D' ∧ ¬ Owned { κ' with H := κ'.H.take H2.length, w := κ'.w.putObj l (.loop { rec with state := .exhausted }) } D' := fun D z1 z2 z3 z4 => by
        refine ⟨D, rfl, by rw [World.putObj_heap_other z4]; exact z1, z2, fun ⟨b', r1, r2, r3⟩ => z3 ⟨b', ?_, r2, r3⟩⟩
        have r1 : b' < (κ'.H.take H2.length).length := r1
        rw [List.length_take] at r1
        omega
      intro d hd
      rcases List.mem_append.1 hd with hd | hd
      · rcases q9 with rfl | ⟨D, rfl, q10, q11, q12⟩
        · cases hd
        · have : d = { target := .collected D, args := #[] } := by simpa using hd
          subst this
          have hD1 : ¬ Owned { S := κ.S, w := w1, ρ := upd κ.ρ κ.H.length { blk := l, cap := 0, isNil := false }, H := κ.H ++ [.loop l nt ps assign body st.env] } D := fun ⟨b', r1, r2, r3⟩ => by
            have r1 : b' < (κ.H ++ [Blk.loop l nt ps assign body st.env]).length := r1
            simp only [List.length_append, List.length_cons, List.length_nil] at r1
            by_cases e : b' = κ.H.length
            · subst e; simp only [upd_same] at r3; omega
            · simp only [upd_other κ.ρ _ e] at r2 r3
              have := h3.lt b' (by omega) r2; omega
          have hDlt := (Array.getElem?_eq_some_iff.1 q12).1
          refine old D ?_ (Nat.le_trans h4.size q10) (fun ho => ?_) q11
          · rw [k2.frame D hDlt hD1]; exact q12
          · rcases k2.own D ho with z | z
            · exact hD1 z
            · have z : w1.heap.size ≤ D := z
              omega
      · have hms := h7.2.step (s1.trans k2)
        obtain ⟨D, z1, z2, z3, z4⟩ := hms d hd
        subst z1
        obtain ⟨D', y1, y2, _⟩ := h7.2 _ hd
        have hDD : D = D' := by simpa using y1
        have := (Array.getElem?_eq_some_iff.1 y2).1
        exact old D z2 z3 z4 (by omega)
theorem VC.rangeXB {g : Operand} {ps : Array Tmp} {assign body : Code} {gf : Nat} {fs : List AV} (hg : evA st.env g = .bf gf fs) (hm : m ≤ st.H.length)
    (h : ∀ l, HCH P gf (fs ++ [.yld l]) (st.H ++ [.loop l nt ps assign body st.env]) fun r H' =>
      ∃ H2 x rest, H' = H2 ++ x :: rest ∧ H2.length = st.H.length ∧ belowH H2.length H2 ∧ belowE H2.length st.env ∧ ((x = .loop l nt ps assign body st.env ∧ VC P nt m R k ⟨st.env, H2⟩) ∨ (x = .lpx l ∧ R .ret ⟨st.env, H2⟩))) :
    VC P nt m R (.code (.rangeFunc g ps assign body) :: k) st := by
  intro F E a w hF hE hgd
  obtain ⟨κ, rfl, h2, h3, h4, h5, h6, h7, h8⟩ := hgd.rho
  simp only [post]
  refine wpIn_rangeFunc ?_
  intro fn _
  obtain ⟨l, mark, w1, q1, q2, q3, q4, q5, q6, q7, ⟨dfr, q8⟩, q9⟩ := enter_loopP (P := P) (a := a) (ps := ps) (assign := assign) (body := body) hF h4 fn
  have hfv := h8.ev g
  rw [hg] at hfv
  obtain ⟨cc, e1, hl⟩ := hfv
  obtain ⟨c1, s1⟩ := h3.push (w' := w1) { blk := l, cap := 0, isNil := false } (.loop l nt ps assign body st.env) q2 q3 q4 (by omega) q7 (fun _ => ⟨q5, q6⟩) (fun hk => by
    simp only [BlkOk, upd_same]
    refine ⟨trivial, trivial, fn, a.tmps, dfr, q8, h5, fun t => V.mono hk _ _ (h6 t), fun o hS => ?_⟩
    have := h3.swf l o hS; omega)
  have hcall := (h l).2 { S := κ.S, w := w1, ρ := upd κ.ρ κ.H.length { blk := l, cap := 0, isNil := false }, H := κ.H ++ [.loop l nt ps assign body st.env] } (cc.toList ++ [.func (.yield l) #[] #[]]) c1 (by simp only [h2]) ((VL.mono s1.toKeep _ _ hl).append (show VL _ [.yld l] [.func (.yield l) #[] #[]] from ⟨.func (.yield l) #[] #[], [], rfl, rfl, rfl⟩))
  refine ⟨l, mark, w1, { target := .fn (.func gf) #[], args := cc ++ #[.func (.yield l) #[] #[]] }, w1, gf, cc ++ #[.func (.yield l) #[] #[]], w1, q1, ?_, ?_, ?_, ?_, ?_⟩
  · simp only [resolve, e1]
    simp [go_sem]
  · intro f' hf'; exact hF.1.fn _
  · simp [invoke, go_sem, (h l).1]
  · intro hd; rw [hF.1.depth] at hd; cases hd
  · have hargs : (cc.toList ++ [.func (.yield l) #[] #[]] : List Value).toArray = cc ++ #[.func (.yield l) #[] #[]] := by apply Array.toList_inj.1; simp
    rw [hargs] at hcall
    refine hF.1.calls (hcall.mono ?_)
    rintro e w' ⟨r, c, κ', rfl, ⟨H2, x, rest, hH, hlen, hbH, hbE, hv⟩, rfl, k1, k2, _⟩
    have hn : H2.length < κ'.H.length := by rw [hH]; simp
    have htk : κ'.H.take H2.length = H2 := by rw [hH]; simp
    have hlb : κ'.H[H2.length]? = some x := by rw [hH]; simp
    have hbx : (κ'.ρ H2.length).isNil = false ∧ (κ'.ρ H2.length).blk = l ∧ ∃ rec : Loop, κ'.w.heap[l]? = some (.loop rec) ∧ rec.state ≠ .busy ∧ ((rec.pending = none ∧ VC P nt m R k ⟨st.env, H2⟩) ∨ (rec.pending = some .ret ∧ R .ret ⟨st.env, H2⟩)) := by
      have hok := k1.blk _ _ hlb
      rcases hv with ⟨rfl, hv⟩ | ⟨rfl, hv⟩
      · obtain ⟨b1, b2, fn', tmps', dfr', b3, _⟩ := hok
        exact ⟨b1, b2, _, b3, by simp, .inl ⟨rfl, hv⟩⟩
      · obtain ⟨b1, b2, ⟨rec, b3, b4, b5⟩, _⟩ := hok
        exact ⟨b1, b2, rec, b3, b4, .inr ⟨b5, hv⟩⟩
    obtain ⟨b1, b2, rec, b3, b4, hv⟩ := hbx
    refine ⟨_, _, run_endLoop b3 b4, ?_⟩
    have s2 := h4.trans (s1.trans k2)
    have hct : Conc { κ' with H := κ'.H.take H2.length } := k1.trunc (by rw [htk]; exact hbH)
    have hno : ¬ Owned { κ' with H := κ'.H.take H2.length } l := fun ⟨b', r1, r2, r3⟩ => by
      have r1 : b' < (κ'.H.take H2.length).length := r1
      rw [List.length_take] at r1
      have := k1.inj b' H2.length (by omega) hn r2 b1 (by rw [b2]; exact r3)
      omega
    obtain ⟨d1, d2, d3⟩ := hct.putObj (o' := .loop { rec with state := .exhausted }) b3 rfl rfl hno
    have hEm : E.H.length ≤ H2.length := by omega
    have hsz : E.w.heap.size ≤ l := Nat.le_trans h4.size q5
    have hgood : Good nt E ⟨st.env, H2⟩ { a with defers := mark ++ a.defers } (κ'.w.putObj l (.loop { rec with state := .exhausted })) := ?_
    · rcases hv with ⟨e, hv⟩ | ⟨e, hv⟩
      · rw [e] at hgood ⊢; exact hv F E _ _ hF hE hgood
      · rw [e] at hgood ⊢; exact wpIn_ret (post_ret ⟨_, hv, hgood⟩)
    refine ⟨_, rfl, htk, d1, d2 E hsz (s2.trunc hEm), h5, fun t => ?_, ?_, ?_⟩
    · exact V.mono d3 _ _ (V.trunc _ _ (belowE_get t hbE) (V.mono (s1.trans k2).toKeep _ _ (h6 t)))
    · rcases q9 with rfl | ⟨D, rfl, q10, _⟩
      · exact h7.1
      · refine List.nodup_cons.2 ⟨fun hmem => ?_, h7.1⟩
        obtain ⟨D', z1, z2, _⟩ := h7.2 _ hmem
        have := (Array.getElem?_eq_some_iff.1 z2).1
        have : D = D' := by simpa using z1
        omega
    · have old : ∀ D, κ'.w.heap[D]? = some (.deferred (some [])) → E.w.heap.size ≤ D → ¬ Owned κ' D → D ≠ l → ∃ D', ({ target := .collected D, args := #[] } : Deferred) = { target := .collected D', args := #[] } ∧ (κ'.w.putObj l (.loop { rec with state := .exhausted })).heap[D']? = some (.deferred (some [])) ∧ E.w.heap.size ≤ D' ∧ ¬ Owned { κ' with H := κ'.H.take H2.length, w := κ'.w.putObj l (.loop { rec with state := .exhausted }) } D' := fun D z1 z2 z3 z4 => by
        refine ⟨D, rfl, by rw [World.putObj_heap_other z4]; exact z1, z2, fun ⟨b', r1, r2, r3⟩ => z3 ⟨b', ?_, r2, r3⟩⟩
        have r1 : b' < (κ'.H.take H2.length).length := r1
        rw [List.length_take] at r1
        omega
      intro d hd
      rcases List.mem_append.1 hd with hd | hd
      · rcases q9 with rfl | ⟨D, rfl, q10, q11, q12⟩
        · cases hd
        · have : d = { target := .collected D, args := #[] } := by simpa using hd
          subst this
          have hD1 : ¬ Owned { S := κ.S, w := w1, ρ := upd κ.ρ κ.H.length { blk := l, cap := 0, isNil := false }, H := κ.H ++ [.loop l nt ps assign body st.env] } D := fun ⟨b', r1, r2, r3⟩ => by
            have r1 : b' < (κ.H ++ [Blk.loop l nt ps assign body st.env]).length := r1
            simp only [List.length_append, List.length_cons, List.length_nil] at r1
            by_cases e : b' = κ.H.length
            · subst e; simp only [upd_same] at r3; omega
            · simp only [upd_other κ.ρ _ e] at r2 r3
              have := h3.lt b' (by omega) r2; omega
          have hDlt := (Array.getElem?_eq_some_iff.1 q12).1
          refine old D ?_ (Nat.le_trans h4.size q10) (fun ho => ?_) q11
          · rw [k2.frame D hDlt hD1]; exact q12
          · rcases k2.own D ho with z | z
            · exact hD1 z
            · have z : w1.heap.size ≤ D := z
              omega
      · have hms := h7.2.step (s1.trans k2)
        obtain ⟨D, z1, z2, z3, z4⟩ := hms d hd
        subst z1
        obtain ⟨D', y1, y2, _⟩ := h7.2 _ hd
        have hDD : D = D' := by simpa using y1
        have := (Array.getElem?_eq_some_iff.1 y2).1
        exact old D z2 z3 z4 (by omega)
end
section
variable {P : Program} {nt m : Nat} {R : Exit → St → Prop} {k : List Iv} {st : St} {dst : Option Nat} {rest : List COp} {env : Env} {H H' : Heap}
theorem HCY.body2x {l p p2 : Nat} {assign body : Code} {own : Heap} {x x2 : AV} (hp : p < nt) (hp2 : p2 < nt) (hlen : H'.length = H.length) (hb : belowH H.length H) (henv : belowE H.length env) (hx : x.pure = true) (hx2 : x2.pure = true)
    (h : vc P nt H.length (fun _ _ => False) [.code assign, .back (fun s => vc P nt H.length (fun e s => e = .ret ∧ Wn H.length s ⟨[], H'⟩) [.code body] s)] ⟨(p2, x2) :: (p, x) :: env, H⟩) :
    HCY P l [x, x2] (H ++ .loop l nt #[p, p2] assign body env :: own) fun r H2 => r = .bool false ∧ H2 = H' ++ .lpx l :: own :=
  HCY.of_body2x hp hp2 hlen hb henv hx hx2 (((CV.run h).of _ ⟨_, rfl, _, rfl, rfl⟩).backMono fun s hs => (CV.run hs).of _ ⟨_, rfl, rfl⟩)
theorem CV.rangeX {g : Operand} {ps : Array Tmp} {assign body : Code} {gf : Nat} {caps : List AV} (hg : evA st.env g = .fn gf caps) (hm : m ≤ st.H.length)
    (h : ∀ l, HCH P gf (.yld l :: caps) (st.H ++ [.loop l nt ps assign body st.env]) fun r H' => ∃ H2 x rest, H' = H2 ++ x :: rest ∧ H2.length = st.H.length ∧ belowH H2.length H2 ∧ belowE H2.length st.env ∧ ((x = .loop l nt ps assign body st.env ∧ vc P nt m R k ⟨st.env, H2⟩) ∨ (x = .lpx l ∧ R .ret ⟨st.env, H2⟩))) :
    CV P nt m R (.code (.rangeFunc g ps assign body) :: k) st := by
  refine CV.mk fun k' hr => ?_
  obtain ⟨r, rfl, hr'⟩ := hr
  refine VC.rangeX hg hm fun l => (h l).mono ?_
  rintro r0 H' ⟨H2, x, rest, e, e1, e2, e3, hv⟩
  exact ⟨H2, x, rest, e, e1, e2, e3, hv.imp (fun q => ⟨q.1, (CV.run q.2).of _ hr'⟩) id⟩
theorem CV.rangeXB {g : Operand} {ps : Array Tmp} {assign body : Code} {gf : Nat} {fs : List AV} (hg : evA st.env g = .bf gf fs) (hm : m ≤ st.H.length)
    (h : ∀ l, HCH P gf (fs ++ [.yld l]) (st.H ++ [.loop l nt ps assign body st.env]) fun r H' => ∃ H2 x rest, H' = H2 ++ x :: rest ∧ H2.length = st.H.length ∧ belowH H2.length H2 ∧ belowE H2.length st.env ∧ ((x = .loop l nt ps assign body st.env ∧ vc P nt m R k ⟨st.env, H2⟩) ∨ (x = .lpx l ∧ R .ret ⟨st.env, H2⟩))) :
    CV P nt m R (.code (.rangeFunc g ps assign body) :: k) st := by
  refine CV.mk fun k' hr => ?_
  obtain ⟨r, rfl, hr'⟩ := hr
  refine VC.rangeXB hg hm fun l => (h l).mono ?_
  rintro r0 H' ⟨H2, x, rest, e, e1, e2, e3, hv⟩
  exact ⟨H2, x, rest, e, e1, e2, e3, hv.imp (fun q => ⟨q.1, (CV.run q.2).of _ hr'⟩) id⟩
theorem CV.rangePB {g : Operand} {ps : Array Tmp} {assign body : Code} {gf : Nat} {fs : List AV} (hg : evA st.env g = .bf gf fs) (hm : m ≤ st.H.length) (H2 : Heap) (hlen : H2.length = st.H.length) (hbH : belowH H2.length H2) (hbE : belowE H2.length st.env)
    (h : ∀ l, HCH P gf (fs ++ [.yld l]) (st.H ++ [.loop l nt ps assign body st.env]) fun r H' => ∃ rest, H' = H2 ++ .loop l nt ps assign body st.env :: rest) (hv : vc P nt m R k ⟨st.env, H2⟩) :
    CV P nt m R (.code (.rangeFunc g ps assign body) :: k) st :=
  CV.rangeXB hg hm fun l => (h l).mono fun _ _ ⟨rest, e⟩ => ⟨H2, _, rest, e, hlen, hbH, hbE, .inl ⟨rfl, hv⟩⟩
theorem vcY_exactF {l : Nat} {args : List AV} (hy : HCY P l args H fun r H2 => r = .bool false ∧ H2 = H') (h : vc P nt m R (.ops rest :: k) ⟨eput env dst (.bool false), H'⟩) : vcY P nt m R l args dst rest k ⟨env, H⟩ :=
  vcY_of (hy.mono fun r H2 ⟨e1, e2⟩ => by rw [e1, e2]; exact h)
end
end Go.Fl
