/- A framework of general lemmas over the model (an abstract machine); no statement of the seat is proved here, and none has a condition. -/
import Derived.Test.YtoadkchhimojlaaFlB
import Derived.Carry
import Derived.Deep.Slices
import Derived.Deep.Fields
import Derived.JoinedOf
import Derived.Handed
import Derived.ProofKit
set_option linter.unusedSectionVars false
set_option linter.unusedSimpArgs false
set_option linter.unusedVariables false
namespace Go.Fl
open Go.RowKit
theorem HCY.of_body2 {P : Program} {l nt p p2 : Nat} {assign body : Code} {env : Env} {own : Heap} {x x2 : AV} {H H' : Heap} (hp : p < nt) (hp2 : p2 < nt) (hlen : H'.length = H.length) (hb : belowH H.length H) (henv : belowE H.length env) (hx : x.pure = true) (hx2 : x2.pure = true)
    (h : VC P nt H.length (fun _ _ => False) [.code assign, .back (fun s => VC P nt H.length (fun _ _ => False) [.code body, .back (fun s => Wn H.length s ⟨[], H'⟩)] s)] ⟨(p2, x2) :: (p, x) :: env, H⟩) :
    HCY P l [x, x2] (H ++ .loop l nt #[p, p2] assign body env :: own) fun r H2 => r = .bool true ∧ H2 = H' ++ .loop l nt #[p, p2] assign body env :: own := by
  intro F κ cargs hF hc hH hv
  have hn : H.length < κ.H.length := by rw [hH]; simp
  have htk : κ.H.take H.length = H := by rw [hH]; simp
  have hdr : κ.H.drop H.length = .loop l nt #[p, p2] assign body env :: own := by rw [hH]; simp
  have hlb : κ.H[H.length]? = some (.loop l nt #[p, p2] assign body env) := by rw [hH]; simp
  obtain ⟨b1, b2, fn, tmps, dfr, b3, b4, b5, b6⟩ := hc.blk _ _ hlb
  obtain ⟨cx, _, rfl, hvx, cx2, _, rfl, hvx2, hnil⟩ := hv
  rw [show _ = [] from hnil]
  have hy : (Instr.yield l [cx, cx2].toArray).run P κ.w = .ok (.round l fn ((tmps.setIfInBounds p cx).setIfInBounds p2 cx2) assign body) κ.w := by
    have := run_yield (P := P) (args := #[cx, cx2]) b3 (by simp)
    simpa using this
  refine ⟨fn, _, assign, body, hy, roundIn_of_wpIn (hF.fn fn) ?_⟩
  have hE0 : Conc { κ with H := κ.H.take H.length } := hc.trunc (by rw [htk]; exact hb)
  have hno : ¬ Owned { κ with H := κ.H.take H.length } l := fun ⟨b', q1, q2, q3⟩ => by
    have q1 : b' < (κ.H.take H.length).length := q1
    rw [List.length_take] at q1
    have := hc.inj b' H.length (by omega) hn q2 b1 (by rw [b2]; exact q3)
    omega
  have hWF : WideE (F.inRound l) { κ with H := κ.H.take H.length } := by
    refine ⟨.inr ⟨l, ?_⟩, fun l' hl' => ?_⟩
    · rcases hF with rfl | ⟨l0, rfl⟩ <;> rfl
    · simp only [Fence.inRound_round, Option.some.injEq] at hl'
      subst hl'
      exact ⟨hno, _, b3⟩
  have hgood : Good nt { κ with H := κ.H.take H.length } ⟨(p2, x2) :: (p, x) :: env, H⟩ { tmps := (tmps.setIfInBounds p cx).setIfInBounds p2 cx2, defers := [] } κ.w := by
    refine ⟨{ κ with H := κ.H.take H.length }, rfl, htk, hE0, .refl _, by simp [b4], fun t => ?_, by simp, fun d hd => by cases hd⟩
    by_cases e2 : p2 = t
    · subst e2
      simp only [eget, if_true]
      have : ((tmps.setIfInBounds p cx).setIfInBounds p2 cx2).getD p2 undef = cx2 := by simp [b4, hp2]
      rw [this]
      exact V.trunc _ _ (below_pure _ _ hx2) hvx2
    · by_cases e : p = t
      · subst e
        simp only [eget, if_neg e2, if_true]
        have : ((tmps.setIfInBounds p cx).setIfInBounds p2 cx2).getD p undef = cx := by
          simp only [Array.getD_eq_getD_getElem?, Array.getElem?_setIfInBounds_ne e2]
          simp [b4, hp]
        rw [this]
        exact V.trunc _ _ (below_pure _ _ hx) hvx
      · simp only [eget, if_neg e, if_neg e2]
        have : ((tmps.setIfInBounds p cx).setIfInBounds p2 cx2).getD t undef = tmps.getD t undef := by
          simp only [Array.getD_eq_getD_getElem?, Array.getElem?_setIfInBounds_ne e, Array.getElem?_setIfInBounds_ne e2]
        rw [this]
        exact V.trunc _ _ (belowE_get t henv) (b5 t)
  have hm : ({ κ with H := κ.H.take H.length } : Cx).H.length = H.length := by show (κ.H.take H.length).length = _; rw [htk]
  refine wpIn_mono (h (F.inRound l) _ _ κ.w hWF hm hgood) ?_
  intro e a1 w1 hp1
  cases e with
  | normal =>
    obtain ⟨s1, hbody, hg1⟩ := hp1
    obtain ⟨hl1, hg2⟩ := Good.put2 (hg := hg1) (E := { κ with H := κ.H.take H.length }) (o' := .loop { state := .busy, pending := none, fn := fn, tmps := tmps, params := #[p, p2], assign := assign, body := body, defers := dfr }) b3 rfl rfl hno
    refine ⟨_, run_beginRound hl1 rfl, ?_⟩
    have hbl : (κ.w.putObj l (.loop { state := .busy, pending := none, fn := fn, tmps := tmps, params := #[p, p2], assign := assign, body := body, defers := dfr })).heap[l]? = some (.loop { state := .busy, pending := none, fn := fn, tmps := tmps, params := #[p, p2], assign := assign, body := body, defers := dfr }) := World.putObj_heap_same (Array.getElem?_eq_some_iff.1 b3).1
    have hWF2 : WideE (F.inRound l) { κ with H := κ.H.take H.length, w := κ.w.putObj l (.loop { state := .busy, pending := none, fn := fn, tmps := tmps, params := #[p, p2], assign := assign, body := body, defers := dfr }) } := by
      refine ⟨hWF.1, fun l' hl' => ?_⟩
      simp only [Fence.inRound_round, Option.some.injEq] at hl'
      subst hl'
      exact ⟨hno, _, hbl⟩
    refine wpIn_mono (hbody (F.inRound l) _ a1 _ hWF2 hm hg2) ?_
    intro e a3 w3 hp3
    cases e with
    | normal =>
      obtain ⟨s3, hw3, hg3⟩ := hp3
      have hg4 := hw3.good (E := { κ with H := κ.H.take H.length, w := κ.w.putObj l (.loop { state := .busy, pending := none, fn := fn, tmps := tmps, params := #[p, p2], assign := assign, body := body, defers := dfr }) }) hm hg3
      obtain ⟨hl3, hg5⟩ := Good.put2 (hg := hg4) (E := { κ with H := κ.H.take H.length, w := κ.w.putObj l (.loop { state := .busy, pending := none, fn := fn, tmps := tmps, params := #[p, p2], assign := assign, body := body, defers := dfr }) }) (o' := .loop { state := .ready, pending := none, fn := fn, tmps := tmps, params := #[p, p2], assign := assign, body := body, defers := dfr }) hbl rfl rfl hno
      refine ⟨_, _, run_endRound none hl3, ?_⟩
      have hback : ({ κ with H := κ.H.take H.length, w := (κ.w.putObj l (.loop { state := .busy, pending := none, fn := fn, tmps := tmps, params := #[p, p2], assign := assign, body := body, defers := dfr })).putObj l (.loop { state := .ready, pending := none, fn := fn, tmps := tmps, params := #[p, p2], assign := assign, body := body, defers := dfr }) } : Cx) = { κ with H := κ.H.take H.length } := by
        rw [putObj_back b3]
      have hg5 := hback ▸ hg5
      obtain ⟨κ4, e1, e2, e3, e4, _⟩ := hg5
      have hl4 : κ4.H.length = H.length := by rw [e2]; exact hlen
      obtain ⟨j1, j2⟩ := join hc e3 e4 hl4 (by omega)
      refine ⟨.bool true, .bool true, { S := κ4.S, w := κ4.w, ρ := fun b => if b < H.length then κ4.ρ b else κ.ρ b, H := κ4.H ++ κ.H.drop H.length }, rfl, ⟨rfl, ?_⟩, e1, j1, j2, rfl⟩
      show κ4.H ++ κ.H.drop H.length = _
      rw [e2, hdr]
    | ret => obtain ⟨_, hf, _⟩ := hp3; exact hf.elim
    | exit id => obtain ⟨_, hf, _⟩ := hp3; exact hf.elim
    | goto t => obtain ⟨_, hf, _⟩ := hp3; exact hf.elim
    | panic c => obtain ⟨_, hf, _⟩ := hp3; exact hf.elim
    | outgrown => obtain ⟨_, hf, _⟩ := hp3; exact hf.elim
  | ret => obtain ⟨_, hf, _⟩ := hp1; exact hf.elim
  | exit id => obtain ⟨_, hf, _⟩ := hp1; exact hf.elim
  | goto t => obtain ⟨_, hf, _⟩ := hp1; exact hf.elim
  | panic c => obtain ⟨_, hf, _⟩ := hp1; exact hf.elim
  | outgrown => obtain ⟨_, hf, _⟩ := hp1; exact hf.elim
section
variable {P : Program} {nt m : Nat} {R : Exit → St → Prop} {k : List It} {st : St}
theorem enter_loopP {E κ : Cx} {F : Fence} {a : Act} {ps : Array Tmp} {assign body : Code} (hF : WideE F E) (hs : StepM E κ) (fn : FuncId) :
    ∃ l mark w1, (Instr.enterLoop fn a.tmps ps assign body F.round).run P κ.w = .ok (l, mark) w1 ∧ w1.os = κ.w.os ∧ w1.tape = κ.w.tape ∧ w1.output = κ.w.output ∧ κ.w.heap.size ≤ l ∧ l < w1.heap.size ∧
      (∀ g, g < κ.w.heap.size → w1.heap[g]? = κ.w.heap[g]?) ∧ (∃ dfr, w1.heap[l]? = some (.loop { state := .ready, pending := none, fn := fn, tmps := a.tmps, params := ps, assign := assign, body := body, defers := dfr })) ∧
      (mark = [] ∨ ∃ D, mark = [{ target := .collected D, args := #[] }] ∧ κ.w.heap.size ≤ D ∧ D ≠ l ∧ w1.heap[D]? = some (.deferred (some []))) := by
  cases hr : F.round with
  | none =>
    refine ⟨_, _, _, run_enterLoop_outer _ _ _ _ _, rfl, rfl, rfl, by omega, by simp [World.size_alloc], fun g hg => ?_, ⟨κ.w.heap.size, ?_⟩, .inr ⟨κ.w.heap.size, rfl, Nat.le_refl _, by omega, ?_⟩⟩
    · rw [Below.heap_alloc _ _ _ (by simp [World.size_alloc]; omega), Below.heap_alloc _ _ _ hg]
    · have := World.alloc_heap_new (κ.w.alloc (.deferred (some []))) (.loop { state := .ready, pending := none, fn := fn, tmps := a.tmps, params := ps, assign := assign, body := body, defers := κ.w.heap.size })
      rwa [World.size_alloc] at this
    · exact (Below.heap_alloc _ _ _ (by simp)).trans (World.alloc_heap_new κ.w _)
  | some l0 =>
    obtain ⟨hno, r0, h0⟩ := hF.2 l0 hr
    have hlt := (Array.getElem?_eq_some_iff.1 h0).1
    have h1 : κ.w.heap[l0]? = some (.loop r0) := by rw [hs.frame l0 hlt hno]; exact h0
    refine ⟨_, _, _, run_enterLoop_inner h1 _ _ _ _ _, rfl, rfl, rfl, Nat.le_refl _, by simp [World.size_alloc], fun g hg => Below.heap_alloc _ _ _ hg, ⟨_, World.alloc_heap_new κ.w _⟩, .inl rfl⟩
theorem VC.rangeP {g : Operand} {ps : Array Tmp} {assign body : Code} {gf : Nat} {caps : List AV} (hg : evA st.env g = .fn gf caps) (hm : m ≤ st.H.length)
    (h : ∀ l, HCH P gf (.yld l :: caps) (st.H ++ [.loop l nt ps assign body st.env]) fun r H' =>
      ∃ H2 rest, H' = H2 ++ .loop l nt ps assign body st.env :: rest ∧ H2.length = st.H.length ∧ belowH H2.length H2 ∧ belowE H2.length st.env ∧ VC P nt m R k ⟨st.env, H2⟩) :
    VC P nt m R (.code (.rangeFunc g ps assign body) :: k) st := by
  intro F E a w hF hE hgd
  obtain ⟨κ, rfl, h2, h3, h4, h5, h6, h7, h8⟩ := hgd.rho
  simp only [post]
  refine wpIn_rangeFunc ?_
  intro fn _
  obtain ⟨l, mark, w1, q1, q2, q3, q4, q5, q6, q7, ⟨dfr, q8⟩, q9⟩ := enter_loopP (P := P) (a := a) (ps := ps) (assign := assign) (body := body) hF h4 fn
  have hfv := h8.ev g
  rw [hg] at hfv
  obtain ⟨cc, e1, hl⟩ := hfv
  obtain ⟨c1, s1⟩ := h3.push (w' := w1) { blk := l, cap := 0, isNil := false } (.loop l nt ps assign body st.env) q2 q3 q4 (by omega) q7 (fun _ => ⟨q5, q6⟩) (fun hk => by
    simp only [BlkOk, upd_same]
    refine ⟨trivial, trivial, fn, a.tmps, dfr, q8, h5, fun t => V.mono hk _ _ (h6 t), fun o hS => ?_⟩
    have := h3.swf l o hS; omega)
  have hcall := (h l).2 { S := κ.S, w := w1, ρ := upd κ.ρ κ.H.length { blk := l, cap := 0, isNil := false }, H := κ.H ++ [.loop l nt ps assign body st.env] } (.func (.yield l) #[] #[] :: cc.toList) c1 (by simp only [h2]) ⟨_, _, rfl, rfl, VL.mono s1.toKeep _ _ hl⟩
  refine ⟨l, mark, w1, { target := .fn (.func gf) cc, args := #[.func (.yield l) #[] #[]] }, w1, gf, #[.func (.yield l) #[] #[]] ++ cc, w1, q1, ?_, ?_, ?_, ?_, ?_⟩
  · simp only [resolve, e1]
    simp [go_sem]
  · intro f' hf'; exact hF.1.fn _
  · simp [invoke, go_sem, (h l).1]
  · intro hd; rw [hF.1.depth] at hd; cases hd
  · have hargs : (.func (.yield l) #[] #[] :: cc.toList : List Value).toArray = #[.func (.yield l) #[] #[]] ++ cc := by apply Array.toList_inj.1; simp
    rw [hargs] at hcall
    refine hF.1.calls (hcall.mono ?_)
    rintro e w' ⟨r, c, κ', rfl, ⟨H2, rest, hH, hlen, hbH, hbE, hv⟩, rfl, k1, k2, _⟩
    have hn : H2.length < κ'.H.length := by rw [hH]; simp
    have htk : κ'.H.take H2.length = H2 := by rw [hH]; simp
    have hlb : κ'.H[H2.length]? = some (.loop l nt ps assign body st.env) := by rw [hH]; simp
    obtain ⟨b1, b2, fn', tmps', dfr', b3, _⟩ := k1.blk _ _ hlb
    refine ⟨_, _, run_endLoop b3 (by simp), ?_⟩
    have s2 := h4.trans (s1.trans k2)
    have hct : Conc { κ' with H := κ'.H.take H2.length } := k1.trunc (by rw [htk]; exact hbH)
    have hno : ¬ Owned { κ' with H := κ'.H.take H2.length } l := fun ⟨b', r1, r2, r3⟩ => by
      have r1 : b' < (κ'.H.take H2.length).length := r1
      rw [List.length_take] at r1
      have := k1.inj b' H2.length (by omega) hn r2 b1 (by rw [b2]; exact r3)
      omega
    obtain ⟨d1, d2, d3⟩ := hct.putObj (o' := .loop { state := .exhausted, pending := none, fn := fn', tmps := tmps', params := ps, assign := assign, body := body, defers := dfr' }) b3 rfl rfl hno
    have hEm : E.H.length ≤ H2.length := by omega
    have hsz : E.w.heap.size ≤ l := Nat.le_trans h4.size q5
    refine hv F E _ _ hF hE ⟨_, rfl, htk, d1, d2 E hsz (s2.trunc hEm), h5, fun t => ?_, ?_, ?_⟩
    · exact V.mono d3 _ _ (V.trunc _ _ (belowE_get t hbE) (V.mono (s1.trans k2).toKeep _ _ (h6 t)))
    · rcases q9 with rfl | ⟨D, rfl, q10, _⟩
      · exact h7.1
      · refine List.nodup_cons.2 ⟨fun hmem => ?_, h7.1⟩
        obtain ⟨D', z1, z2, _⟩ := h7.2 _ hmem
        have := (Array.getElem?_eq_some_iff.1 z2).1
        have : D = D' := by simpa using z1
        omega
    · have old : ∀ D, κ'.w.heap[D]? = some (.deferred (some [])) → E.w.heap.size ≤ D → ¬ Owned κ' D → D ≠ l → ∃ D', ({ target := .collected D, args := #[] } : Deferred) = { target := .collected D', args := #[] } ∧ (κ'.w.putObj l (.loop { state := .exhausted, pending := none, fn := fn', tmps := tmps', params := ps, assign := assign, body := body, defers := dfr' })).heap[D']? = some (.deferred (some [])) ∧ E.w.heap.size ≤ D' ∧ ¬ Owned { κ' with H := κ'.H.take H2.length, w := κ'.w.putObj l (.loop { state := .exhausted, pending := none, fn := fn', tmps := tmps', params := ps, assign := assign, body := body, defers := dfr' }) } D' := fun D z1 z2 z3 z4 => by
        refine ⟨D, rfl, by rw [World.putObj_heap_other z4]; exact z1, z2, fun ⟨b', r1, r2, r3⟩ => z3 ⟨b', ?_, r2, r3⟩⟩
        have r1 : b' < (κ'.H.take H2.length).length := r1
        rw [List.length_take] at r1
        omega
      intro d hd
      rcases List.mem_append.1 hd with hd | hd
      · rcases q9 with rfl | ⟨D, rfl, q10, q11, q12⟩
        · cases hd
        · have : d = { target := .collected D, args := #[] } := by simpa using hd
          subst this
          have hD1 : ¬ Owned { S := κ.S, w := w1, ρ := upd κ.ρ κ.H.length { blk := l, cap := 0, isNil := false }, H := κ.H ++ [.loop l nt ps assign body st.env] } D := fun ⟨b', r1, r2, r3⟩ => by
            have r1 : b' < (κ.H ++ [Blk.loop l nt ps assign body st.env]).length := r1
            simp only [List.length_append, List.length_cons, List.length_nil] at r1
            by_cases e : b' = κ.H.length
            · subst e; simp only [upd_same] at r3; omega
            · simp only [upd_other κ.ρ _ e] at r2 r3
              have := h3.lt b' (by omega) r2; omega
          have hDlt := (Array.getElem?_eq_some_iff.1 q12).1
          refine old D ?_ (Nat.le_trans h4.size q10) (fun ho => ?_) q11
          · rw [k2.frame D hDlt hD1]; exact q12
          · rcases k2.own D ho with z | z
            · exact hD1 z
            · have z : w1.heap.size ≤ D := z
              omega
      · have hms := h7.2.step (s1.trans k2)
        obtain ⟨D, z1, z2, z3, z4⟩ := hms d hd
        subst z1
        obtain ⟨D', y1, y2, _⟩ := h7.2 _ hd
        have hDD : D = D' := by simpa using y1
        have := (Array.getElem?_eq_some_iff.1 y2).1
        exact old D z2 z3 z4 (by omega)
end
end Go.Fl
set_option linter.unusedSectionVars false
set_option linter.unusedSimpArgs false
set_option linter.unusedVariables false
namespace Go.Fl
open Go.RowKit
section
variable {κ : Cx} {n q : Nat} {el : TypeId} {sz : Nat} {es : List (List AV)} {sl : Bool}
end
section
variable {P : Program} {nt m : Nat} {R : Exit → St → Prop} {k : List Iv} {st : St} {dst : Option Nat} {rest : List COp} {env : Env} {H H' : Heap}
theorem HCY.body2 {l p p2 : Nat} {assign body : Code} {own : Heap} {x x2 : AV} (hp : p < nt) (hp2 : p2 < nt) (hlen : H'.length = H.length) (hb : belowH H.length H) (henv : belowE H.length env) (hx : x.pure = true) (hx2 : x2.pure = true)
    (h : vc P nt H.length (fun _ _ => False) [.code assign, .back (fun s => vc P nt H.length (fun _ _ => False) [.code body, .back (fun s => Wn H.length s ⟨[], H'⟩)] s)] ⟨(p2, x2) :: (p, x) :: env, H⟩) :
    HCY P l [x, x2] (H ++ .loop l nt #[p, p2] assign body env :: own) fun r H2 => r = .bool true ∧ H2 = H' ++ .loop l nt #[p, p2] assign body env :: own :=
  HCY.of_body2 hp hp2 hlen hb henv hx hx2 (((CV.run h).of _ ⟨_, rfl, _, rfl, rfl⟩).backMono fun s hs => (CV.run hs).of _ ⟨_, rfl, _, rfl, rfl⟩)
theorem CV.rangeP {g : Operand} {ps : Array Tmp} {assign body : Code} {gf : Nat} {caps : List AV} (hg : evA st.env g = .fn gf caps) (hm : m ≤ st.H.length) (H2 : Heap) (hlen : H2.length = st.H.length) (hbH : belowH H2.length H2) (hbE : belowE H2.length st.env)
    (h : ∀ l, HCH P gf (.yld l :: caps) (st.H ++ [.loop l nt ps assign body st.env]) fun r H' => ∃ rest, H' = H2 ++ .loop l nt ps assign body st.env :: rest) (hv : vc P nt m R k ⟨st.env, H2⟩) :
    CV P nt m R (.code (.rangeFunc g ps assign body) :: k) st := by
  refine CV.mk fun k' hr => ?_
  obtain ⟨r, rfl, hr'⟩ := hr
  refine VC.rangeP hg hm fun l => (h l).mono ?_
  rintro r0 H' ⟨rest, e⟩
  exact ⟨H2, rest, e, hlen, hbH, hbE, (CV.run hv).of _ hr'⟩
theorem vcY_exact {l : Nat} {args : List AV} (hy : HCY P l args H fun r H2 => r = .bool true ∧ H2 = H') (h : vc P nt m R (.ops rest :: k) ⟨eput env dst (.bool true), H'⟩) : vcY P nt m R l args dst rest k ⟨env, H⟩ :=
  vcY_of (hy.mono fun r H2 ⟨e1, e2⟩ => by rw [e1, e2]; exact h)
end
end Go.Fl
set_option linter.unusedSectionVars false
set_option linter.unusedSimpArgs false
set_option linter.unusedVariables false
namespace Go.Fl
open Go.RowKit
theorem HCH.sealRow {P : Program} {g : FuncId} {args : List AV} {Q : AV → Heap → Prop} {H : Heap} {b : Nat} {el : TypeId} {sz : Nat} {es : List (List AV)} {sl : Bool} (hb : H[b]? = some (.row el sz es sl)) (hp : pureE es)
    (h1 : HCH P g (subL b es.length (.lst false sz es) args) (sealH b el sz es H) Q) : HCH P g args H Q := by
  refine ⟨h1.1, fun κ cargs hc hH hvl => ?_⟩
  subst hH
  refine (h1.2 (sealC κ b el sz es) cargs (hc.sealRow hb hp) rfl (VL.sld hc hb hp _ _ hvl)).mono ?_
  rintro e w' ⟨r, c, κ', e1, q, e2, k1, k2, k3⟩
  exact ⟨r, c, κ', e1, q, e2, k1, (StepM.sealRow hc hb hp (.refl κ)).trans k2, k3⟩
end Go.Fl
set_option linter.unusedSimpArgs false
set_option linter.unusedVariables false
namespace Go.Fl
open Classical
theorem maxLen_eq : maxLen = 9223372036854775807 := rfl
attribute [go_sem] maxLen_eq
theorem PC.dec {P : Program} {g : FuncId} {a : List AV} {p : Prop} {i j : Decidable p} (h : PC P g a (.bool (@decide p i))) : PC P g a (.bool (@decide p j)) := by
  have : i = j := Subsingleton.elim _ _
  subst this; exact h
theorem PC.frz {P : Program} {g : FuncId} {args args' : List AV} {v : AV} (h : PC P g args' v) (hv : v.pure = true) (hs : safeV v = true) (hf : frzL [] args args') : PC P g args v := by
  unfold PC at h ⊢
  refine (HCH.freeze h hf (fun r H' hq => ⟨by rw [hq.1]; exact hs, by rw [hq.2]; simp [safeH]⟩)).mono ?_
  rintro r H' ⟨r0, H0, ⟨rfl, rfl⟩, rfl, rfl⟩
  exact ⟨shiftV_pure _ _ hv, rfl⟩
def encN (n : Int) : List AV := [.int .i64 n]
theorem pureN (l : List Int) : pureE (l.map encN) = True := pureE_map fun _ => rfl
abbrev lN (l : List Int) : AV := .lst false 1 (l.map encN)
theorem get_of {α : Type} {l : List α} {j : Nat} (h : j < l.length) : ∃ a, l[j]? = some a := ⟨_, List.getElem?_eq_getElem h⟩
def within (n lo hi : Int) : Prop := lo ≤ n ∧ n ≤ hi
attribute [go_sem] pureN
def firstAt {α : Type} (q : α → Prop) (l : List α) (j : Nat) : Prop := (∃ a, l[j]? = some a ∧ q a) ∧ ∀ i, i < j → ∀ b, l[i]? = some b → ¬ q b
noncomputable def ix {α : Type} (q : α → Prop) (l : List α) : Int := if h : ∃ j, firstAt q l j then (Classical.choose h : Nat) else -1
theorem ix_at {α : Type} {q : α → Prop} {l : List α} {j : Nat} (h : firstAt q l j) : ix q l = j := by
  have hx : ∃ j, firstAt q l j := ⟨j, h⟩
  unfold ix
  rw [dif_pos hx]
  have hs := Classical.choose_spec hx
  generalize Classical.choose hx = k at hs
  obtain ⟨⟨a, h1, h2⟩, h3⟩ := h
  obtain ⟨⟨b, h4, h5⟩, h6⟩ := hs
  rcases Nat.lt_trichotomy j k with hl | hl | hl
  · exact absurd h2 (h6 j hl a h1)
  · rw [hl]
  · exact absurd h5 (h3 k hl b h4)
theorem ix_no {α : Type} {q : α → Prop} {l : List α} (h : ∀ (i : Nat) (b : α), l[i]? = some b → ¬ q b) : ix q l = -1 := by
  unfold ix
  rw [dif_neg]
  rintro ⟨j, ⟨a, h1, h2⟩, _⟩
  exact h j a h1 h2
theorem first_of {α : Type} {q : α → Prop} {l : List α} (h : ∃ a, a ∈ l ∧ q a) : ∃ j, firstAt q l j := by
  obtain ⟨a, ha, hq⟩ := h
  obtain ⟨i, hi⟩ := List.mem_iff_getElem?.1 ha
  induction i using Nat.strongRecOn generalizing a with
  | _ i ih =>
    by_cases hx : ∃ j, j < i ∧ ∃ b, l[j]? = some b ∧ q b
    · obtain ⟨j, hj, b, hb, hqb⟩ := hx
      exact ih j hj b (List.mem_of_getElem? hb) hqb hb
    · exact ⟨i, ⟨a, hi, hq⟩, fun j hj b hb hqb => hx ⟨j, hj, b, hb, hqb⟩⟩
theorem ix_ge {α : Type} {q : α → Prop} {l : List α} : 0 ≤ ix q l ↔ ∃ a, a ∈ l ∧ q a := by
  by_cases h : ∃ a, a ∈ l ∧ q a
  · obtain ⟨j, hj⟩ := first_of h
    rw [ix_at hj]
    exact ⟨fun _ => h, fun _ => by omega⟩
  · rw [ix_no (fun i b hb hq => h ⟨b, List.mem_of_getElem? hb, hq⟩)]
    exact ⟨fun h => by omega, fun h' => absurd h' h⟩
theorem bn {p q : Prop} {i : Decidable p} {j : Decidable q} (h : q ↔ ¬ p) : AV.bool (!@decide p i) = AV.bool (@decide q j) := by
  by_cases hp : p <;> simp [h, hp]
def oA (b : Nat) (l : List Int) : AV := match l with | [] => .nilS | l => .row b l.length
def oH (l : List Int) : Heap := match l with | [] => [] | l => [.row 3 1 (l.map encN) false]
theorem oA_nil {b : Nat} : oA b [] = .nilS := rfl
theorem oA_cons {b : Nat} {x : Int} {r : List Int} : oA b (x :: r) = .row b (r.length + 1) := rfl
theorem oH_nil : oH [] = [] := rfl
theorem oH_cons {x : Int} {r : List Int} : oH (x :: r) = [.row 3 1 (encN x :: r.map encN) false] := rfl
theorem sub_mapN {b n : Nat} {v : AV} {l : List Int} : List.map (subL b n v) (List.map encN l) = List.map encN l := by
  rw [List.map_map]; exact List.map_congr_left fun a _ => by simp [encN, subL, subV]
attribute [go_sem] oA_nil oA_cons oH_nil oH_cons sub_mapN
def allTo {α : Type} (p : Nat → α → Prop) (l : List α) (j : Nat) : Prop := ∀ i x, i < j → l[i]? = some x → p i x
theorem allTo.zero {α : Type} {p : Nat → α → Prop} {l : List α} : allTo p l 0 := fun i x h => by omega
theorem allTo.succ {α : Type} {p : Nat → α → Prop} {l : List α} {j : Nat} {x : α} (h : allTo p l j) (hx : l[j]? = some x) (hp : p j x) : allTo p l (j + 1) := fun i y hi hy => by
  rcases Nat.lt_or_ge i j with h2 | h2
  · exact h i y h2 hy
  · have : i = j := by omega
    subst this
    rw [hx] at hy; cases hy; exact hp
theorem allTo.all {α : Type} {p : Nat → α → Prop} {l : List α} {j : Nat} (h : allTo p l j) (hj : l.length ≤ j) : ∀ (i : Nat) (x : α), l[i]? = some x → p i x := fun i x hx => h i x (by have := (List.getElem?_eq_some_iff.1 hx).1; omega) hx
theorem allTo.mem {α : Type} {p : α → Prop} {l : List α} {j : Nat} (h : allTo (fun _ => p) l j) (hj : l.length ≤ j) : ∀ x, x ∈ l → p x := fun x hx => by
  obtain ⟨i, hi⟩ := List.mem_iff_getElem?.1 hx
  exact h.all hj i x hi
def gv (s : List Int) (i : Int) : Int := (s[i.toNat]?).getD 0
theorem gv_get {s : List Int} {i : Int} (h : i.toNat < s.length) : s[i.toNat]? = some (gv s i) := by
  obtain ⟨a, ha⟩ := get_of h; simp [gv, ha]
theorem gv_nat {s : List Int} {i : Nat} {x : Int} (h : s[i]? = some x) : gv s i = x := by simp [gv, h]
def low : List Int → Int
  | [] => 0
  | x :: r => r.foldl min x
def high : List Int → Int
  | [] => 0
  | x :: r => r.foldl max x
def I (x : Int) : AV := .int .i64 x
theorem pureL_mapI : ∀ s : List Int, AV.pureL (s.map I) = true
  | [] => rfl
  | x :: s => by have := pureL_mapI s; simpa [AV.pureL, AV.pure, I] using this
theorem frzL_mapI {H : Heap} {s : List Int} : frzL H (s.map I) (s.map I) = True := by simp [frzL_self H _ (pureL_mapI s)]
theorem belowL_mapI {n : Nat} {s : List Int} : (belowL n (s.map I) = true) = True := by simp [belowL_pure n _ (pureL_mapI s)]
theorem frL_mapI {h : List AV → List AV} {H : Heap} : ∀ {s : List Int}, frL h H (s.map I) = s.map I
  | [] => rfl
  | x :: s => by have := frL_mapI (h := h) (H := H) (s := s); simpa [frL, frV, I] using this
theorem allOne_mapI : ∀ {s : List Int}, (s.map I).all AV.oneA = true
  | [] => rfl
  | x :: s => by simp [AV.oneA, I]
theorem lenL_mapI : ∀ {s : List Int}, lenL (s.map I) = True
  | [] => rfl
  | x :: s => by have := lenL_mapI (s := s); simpa [lenL, lenV, I] using this
theorem drop_head {l : List AV} {n : Nat} : (l.drop n).head? = l[n]? := by simp
theorem getI {s : List Int} {k : Nat} : (s.map I)[k]? = (s[k]?).map I := by simp
theorem put0 {s : List Int} {k : Nat} {v : Int} (hk : k < s.length) : List.take k (s.map I) ++ [.int .i64 v] ++ List.drop (k + 1) (s.map I) = (s.set k v).map I := by
  rw [List.map_set, List.set_eq_take_append_cons_drop, if_pos (by simpa using hk)]
  simp [I]
theorem get5 {a b c d e : AV} {s : List Int} {k : Nat} : (List.drop (5 + k) (a :: b :: c :: d :: e :: s.map I)).head? = (s[k]?).map I := by
  rw [Nat.add_comm 5 k]; simp
theorem get5' {a b c d e : AV} {s : List Int} {k : Nat} : (a :: b :: c :: d :: e :: s.map I)[5 + k]? = (s[k]?).map I := by
  rw [Nat.add_comm 5 k]; simp
theorem subL_mapI {b n : Nat} {l : AV} {s : List Int} : subL b n l (s.map I) = s.map I := subL_pure b n l _ (pureL_mapI s)
theorem bubL_mapI {b : Nat} {l : List AV} {s : List Int} : bubL b l (s.map I) = s.map I := bubL_pure b l _ (pureL_mapI s)
theorem pureE_mapI {l : List (List Int)} : pureE (l.map fun s => s.map I) = True := pureE_map fun s => pureL_mapI s
theorem sub_mapI {b n : Nat} {v : AV} {l : List (List Int)} : List.map (subL b n v) (l.map fun s => s.map I) = l.map fun s => s.map I := by
  rw [List.map_map]; exact List.map_congr_left fun a _ => subL_mapI
attribute [go_sem] pureL_mapI belowL_mapI frL_mapI frzL_mapI allOne_mapI lenL_mapI subL_mapI bubL_mapI pureE_mapI sub_mapI get5 get5'
end Go.Fl
set_option linter.unusedSimpArgs false
set_option linter.unusedVariables false
namespace Go.Fl
open Classical
theorem HCH.bodyN {P : Program} {f : FuncId} {fn : Func} {c : Code} {args : List AV} {H : Heap} {Q : AV → Heap → Prop} (hf : P.funcs[f]? = some fn) (hname : (fn.name == "runtime.NumGoroutine") = false) (hb : fn.body = some c) (hn : args.length ≤ fn.ntmps)
    (h : CV P fn.ntmps H.length (fun e s => ∃ s', Wn H.length s s' ∧ Ret P fn.results.toList Q e s') [.code c] ⟨argEnv 0 args, H⟩) : HCH P f args H Q := by
  refine HCH.body hf hname hb hn (CV.mk fun k' hr => ?_)
  obtain ⟨r, rfl, hr'⟩ := hr
  have hr' : r = [] := hr'
  subst hr'
  refine fun F E a w hF hE hg => wpIn_mono (h.of _ ⟨[], rfl, rfl⟩ F E a w hF hE hg) fun e a w hp => ?_
  obtain ⟨s, ⟨s', h1, h2⟩, h3⟩ := hp
  exact ⟨s', h2, h1.good hE h3⟩
theorem vcP_new {P : Program} {nt m : Nat} {R : Exit → St → Prop} {g : FuncId} {args args' : List AV} {dst : Option Nat} {rest : List COp} {k : List Iv} {env : Env} {H H0 : Heap} {v0 : AV} (hc : HCH P g args [] fun r H' => r = v0 ∧ H' = H0) (ha : AV.pureL args = true)
    (h : vc P nt m R (.ops rest :: k) ⟨eput env dst (shiftV H.length v0), H ++ H0.map (shiftB H.length)⟩) : vcP P nt m R g args args' dst rest k ⟨env, H⟩ :=
  vcP_raw ((hc.pure ha H).mono (by rintro r H' ⟨r0, H0', ⟨rfl, rfl⟩, rfl, rfl⟩; exact h))
theorem vcP_here {P : Program} {nt m : Nat} {R : Exit → St → Prop} {g : FuncId} {args args' : List AV} {dst : Option Nat} {rest : List COp} {k : List Iv} {env : Env} {H : Heap} {Q : AV → Heap → Prop} (hc : HCH P g args H Q)
    (h : ∀ r H', Q r H' → vc P nt m R (.ops rest :: k) ⟨eput env dst r, H'⟩) : vcP P nt m R g args args' dst rest k ⟨env, H⟩ :=
  vcP_raw (hc.mono h)
theorem shift_mapN {n : Nat} {l : List Int} : List.map (shiftL n) (List.map encN l) = List.map encN l := by
  rw [List.map_map]; exact List.map_congr_left fun a _ => by simp [encN, shiftL, shiftV]
attribute [go_sem] shift_mapN shiftV shiftL shiftB
end Go.Fl
set_option linter.unusedSimpArgs false
set_option linter.unusedVariables false
namespace Go.Fl
open Classical
end Go.Fl
set_option linter.unusedSectionVars false
set_option linter.unusedSimpArgs false
set_option linter.unusedVariables false
namespace Go.Fl
open Go.RowKit
def keepE (N : Nat) : Env → Env
  | [] => []
  | x :: r => if x.1 < N then x :: keepE N r else keepE N r
theorem keepE_nil {N : Nat} : keepE N [] = [] := rfl
theorem keepE_cons {N t : Nat} {v : AV} {r : Env} : keepE N ((t, v) :: r) = if t < N then (t, v) :: keepE N r else keepE N r := rfl
attribute [go_sem] keepE_nil keepE_cons
theorem eget_keep {N : Nat} : ∀ (env : Env) (t : Nat), eget (keepE N env) t = if t < N then eget env t else .any
  | [], t => by simp [keepE, eget]
  | (k, v) :: r, t => by
    have ih := eget_keep (N := N) r t
    rw [keepE_cons]
    by_cases hk : k < N
    · rw [if_pos hk]
      simp only [eget]
      by_cases e : k = t
      · rw [if_pos e, if_pos e, if_pos (by omega)]
      · rw [if_neg e, if_neg e, ih]
    · rw [if_neg hk, ih]
      by_cases h : t < N
      · rw [if_pos h, if_pos h, eget, if_neg (by omega)]
      · rw [if_neg h, if_neg h]
theorem Good.keep {nt : Nat} {E : Cx} {s : St} {a : Act} {w : World} (hg : Good nt E s a w) (N : Nat) : Good nt E ⟨keepE N s.env, s.H⟩ a w := by
  obtain ⟨κ, h1, h2, h3, h4, h5, h6, h7⟩ := hg
  refine ⟨κ, h1, h2, h3, h4, h5, fun t => ?_, h7⟩
  rw [eget_keep]
  split
  · exact h6 t
  · trivial
section
variable {P : Program} {nt m : Nat} {R : Exit → St → Prop} {st : St}
theorem CV.gc (N : Nat) {x y : Code} (h1 : ∀ Y, Y = y → CV P nt m R [.code x, .back fun s => CV P nt m R [.code Y] ⟨keepE N s.env, s.H⟩] st) : CV P nt m R [.code (.seq x y)] st := by
  refine CV.mk fun k' hr => ?_
  obtain ⟨r, rfl, hr'⟩ := hr
  have hr' : r = [] := hr'
  subst hr'
  refine VC.seq fun F E a w hF hE hg => ?_
  have h := (h1 y rfl).of _ ⟨_, rfl, _, rfl, rfl⟩ F E a w hF hE hg
  refine wpIn_mono h fun e a' w' hp => ?_
  cases e with
  | normal =>
    obtain ⟨s, hs, hgs⟩ := hp
    exact hs.of _ ⟨_, rfl, rfl⟩ F E a' w' hF hE (hgs.keep N)
  | _ => exact hp
theorem CV.gc2 (N : Nat) {x c z : Code} (h1 : ∀ Y, Y = z → CV P nt m R [.code x, .code c, .back fun s => CV P nt m R [.code Y] ⟨keepE N s.env, s.H⟩] st) : CV P nt m R [.code (.seq x (.seq c z))] st := by
  refine CV.mk fun k' hr => ?_
  obtain ⟨r, rfl, hr'⟩ := hr
  have hr' : r = [] := hr'
  subst hr'
  refine VC.seq fun F E a w hF hE hg => ?_
  have h := (h1 z rfl).of _ ⟨_, rfl, _, rfl, _, rfl, rfl⟩ F E a w hF hE hg
  refine wpIn_mono h fun e a' w' hp => ?_
  cases e with
  | normal =>
    refine wpIn_seq (wpIn_mono hp fun e a2 w2 hq => ?_)
    cases e with
    | normal =>
      obtain ⟨s, hs, hgs⟩ := hq
      exact hs.of _ ⟨_, rfl, rfl⟩ F E a2 w2 hF hE (hgs.keep N)
    | _ => exact hq
  | _ => exact hp
theorem CV.gcc (N : Nat) {x z a b : Code} {o : Operand} (h1 : ∀ Y, Y = z → CV P nt m R [.code x, .code (.cond o a b), .back fun s => CV P nt m R [.code Y] ⟨keepE N s.env, s.H⟩] st) : CV P nt m R [.code (.seq x (.seq (.cond o a b) z))] st := CV.gc2 N h1
theorem CV.same {Y : Code} (h : CV P nt m R [.code Y] st) : CV P nt m R [.code Y] st := h
end
end Go.Fl
namespace Go.Fl
section
variable {P : Program} {nt m : Nat} {R : Exit → St → Prop} {g : FuncId} {args a2 : List AV} {dst : Option Nat} {v : AV}
theorem vp {rest : List COp} {k : List Iv} {env : Env} {H : Heap} (hc : PC P g a2 v) (hs : v.pure = true ∧ (AV.pureL args = true ∧ frzL [] args a2 ∨ safeV v = true ∧ frzL H args a2)) (h : vc P nt m R (.ops rest :: k) ⟨eput env dst v, H⟩) : vcP P nt m R g args a2 dst rest k ⟨env, H⟩ := by
  rcases hs with ⟨h1, h2 | h2⟩
  · exact vcP_pure hc h1 h2.1 h2.2 h
  · exact vcP_safe hc h1 h2.1 h2.2 h
theorem dp {lo hi : Nat} {s : DS} {K : DS → Prop} (hc : PC P g a2 v) (hs : v.pure = true ∧ AV.pureL args = true ∧ frzL [] args a2) (h : K (dPutF s dst v lo hi fun _ => True)) : dCallP P g args a2 dst lo hi s K := dCallP_pure hc hs.1 hs.2.1 hs.2.2 h
theorem ds {lo hi : Nat} {s : DS} {K : DS → Prop} (hc : PC P g a2 v) (hs : v.pure = true ∧ safeV v = true) (h : K (dPutF s dst v lo hi fun H => frzL H args a2)) : dCallP P g args a2 dst lo hi s K := dCallP_safe hc hs.1 hs.2 h
theorem dc {s : DS} {K : DS → Prop} (hc : PC P g a2 v) (hs : v.pure = true ∧ (AV.pureL args = true ∧ frzL [] args a2 ∨ safeV v = true ∧ frzL (s.HB ++ s.pb) args a2)) (h : K (dPutC s dst v (s.HB ++ s.pb))) : dCallC P g args a2 dst s K := by
  rcases hs with ⟨h1, h2 | h2⟩
  · exact dCallC_pure hc h1 h2.1 h2.2 h
  · exact dCallC_safe hc h1 h2.1 h2.2 h
end
theorem cn : ((1 : Nat) : Int) = 1 ∧ ((0 : Nat) : Int) = 0 := ⟨rfl, rfl⟩
theorem hq {p : Prop} : (True ∨ p) = True ∧ (p ∨ True) = True ∧ (p ∧ p) = p ∧ (True ∧ p) = p ∧ (p ∧ True) = p := by simp
theorem bq {a b : Bool} : ((a && b) = true ↔ a = true ∧ b = true) ∧ ((a || b) = true ↔ a = true ∨ b = true) ∧ ((a && b) = false ↔ a = false ∨ b = false) ∧ ((a || b) = false ↔ a = false ∧ b = false) := by
  cases a <;> cases b <;> simp
theorem bz {a : Bool} : ((!a) = true ↔ a = false) ∧ ((!a) = false ↔ a = true) := by
  cases a <;> simp
end Go.Fl
set_option linter.unusedSectionVars false
set_option linter.unusedSimpArgs false
set_option linter.unusedVariables false
namespace Go.Fl
open Go.RowKit
def goneC (κ : Cx) (n : Nat) : Cx := { S := κ.S, w := κ.w, ρ := upd κ.ρ n nilZ, H := κ.H.set n .gone }
def putPs : List Nat → List AV → Env → Env
  | p :: ps, v :: vs, env => putPs ps vs ((p, v) :: env)
  | _, _, env => env
theorem putPs_ok {κ : Cx} : ∀ (ps : List Nat) (vs : List AV) (cs : List Value) (env : Env) (tmps : Array Value), VL κ vs cs → ps.length = vs.length → (∀ p ∈ ps, p < tmps.size) → (∀ t, V κ (eget env t) (tmps.getD t undef)) →
    ((ps.zip cs).foldl (fun tmps (x : Nat × Value) => tmps.setIfInBounds x.1 x.2) tmps).size = tmps.size ∧ ∀ t, V κ (eget (putPs ps vs env) t) (((ps.zip cs).foldl (fun tmps (x : Nat × Value) => tmps.setIfInBounds x.1 x.2) tmps).getD t undef)
  | [], [], cs, env, tmps, hv, _, _, h => by rw [show cs = [] from hv]; exact ⟨rfl, h⟩
  | [], _ :: _, _, _, _, _, hl, _, _ => by simp at hl
  | _ :: _, [], _, _, _, _, hl, _, _ => by simp at hl
  | p :: ps, v :: vs, cs, env, tmps, ⟨c, cs', e, h1, h2⟩, hl, hp, h => by
    subst e
    have hp0 := hp p (by simp)
    have := putPs_ok ps vs cs' ((p, v) :: env) (tmps.setIfInBounds p c) h2 (by simpa using hl) (fun q hq => by simpa using hp q (by simp [hq])) (fun t => by
      by_cases e : p = t
      · subst e
        simp only [eget, if_true]
        have : (tmps.setIfInBounds p c).getD p undef = c := by simp [hp0]
        rw [this]; exact h1
      · simp only [eget, if_neg e]
        have : (tmps.setIfInBounds p c).getD t undef = tmps.getD t undef := by
          simp only [Array.getD_eq_getD_getElem?, Array.getElem?_setIfInBounds_ne e]
        rw [this]; exact h t)
    simpa [putPs] using this
section
variable {κ : Cx} (hc : Conc κ) {n l nt : Nat} {ps : Array Tmp} {assign body : Code} {env : Env} (hn : κ.H[n]? = some (.loop l nt ps assign body env))
include hc hn
theorem gone_ok : Conc (goneC κ n) ∧ StepM κ (goneC κ n) ∧ ¬ Owned (goneC κ n) l ∧ ∀ g, Owned (goneC κ n) g → Owned κ g := by
  have hnl := (List.getElem?_eq_some_iff.1 hn).1
  obtain ⟨b1, b2, _⟩ := hc.blk _ _ hn
  have hm := hc.mod (w' := κ.w) n nilZ _ .gone hn rfl rfl rfl (Nat.le_refl _) (fun _ _ _ => rfl) (fun _ _ _ => SameAt.refl) (fun h => by cases h) rfl (fun _ => by simp only [BlkOk, upd_same]; rfl)
  have key : ∀ b, b < κ.H.length → (upd κ.ρ n nilZ b).isNil = false → b ≠ n ∧ upd κ.ρ n nilZ b = κ.ρ b := fun b hb h => by
    by_cases e : b = n
    · subst e; simp only [upd_same] at h; cases h
    · exact ⟨e, upd_other _ _ e⟩
  refine ⟨hm.1, hm.2, fun ⟨b, q1, q2, q3⟩ => ?_, fun g ⟨b, q1, q2, q3⟩ => ?_⟩
  · have q1 : b < κ.H.length := by simpa [goneC] using q1
    obtain ⟨e1, e2⟩ := key b q1 q2
    simp only [goneC, e2] at q2 q3
    exact e1 (hc.inj b n q1 hnl q2 b1 (by rw [b2]; exact q3))
  · have q1 : b < κ.H.length := by simpa [goneC] using q1
    obtain ⟨e1, e2⟩ := key b q1 q2
    simp only [goneC, e2] at q2 q3
    exact ⟨b, q1, q2, q3⟩
theorem ungone {o' : Loop} (κ4 : Cx) (X : Blk) (h4 : Conc κ4) (hs : StepM { goneC κ n with w := κ.w.putObj l (.loop o') } κ4) (hg : κ4.H[n]? = some .gone) (hl4 : κ4.w.heap[l]? = some (.loop o'))
    (hX : Keep κ { S := κ4.S, w := κ4.w, ρ := upd κ4.ρ n (κ.ρ n), H := κ4.H.set n X } → (∀ o, ¬ κ4.S l o) → BlkOk { S := κ4.S, w := κ4.w, ρ := upd κ4.ρ n (κ.ρ n), H := κ4.H.set n X } n X) (hX2 : ∀ ty cs sl, X ≠ .box ty cs sl) (hX3 : ∀ a b c d, X ≠ .row a b c d) (hX4 : ∀ a b c d, X ≠ .rg a b c d) :
    Conc { S := κ4.S, w := κ4.w, ρ := upd κ4.ρ n (κ.ρ n), H := κ4.H.set n X } ∧ StepM κ { S := κ4.S, w := κ4.w, ρ := upd κ4.ρ n (κ.ρ n), H := κ4.H.set n X } := by
  have hnl := (List.getElem?_eq_some_iff.1 hn).1
  have hnl4 := (List.getElem?_eq_some_iff.1 hg).1
  obtain ⟨b1, b2, fn, tmps, dfr, b3, b4, b5, b6⟩ := hc.blk _ _ hn
  obtain ⟨g1, g2, g3, g4⟩ := gone_ok hc hn
  have hlt := (Array.getElem?_eq_some_iff.1 b3).1
  have hcell := fun g o => putObj_cell b3 (o' := .loop o') rfl rfl g o
  have hno4 : ¬ Owned κ4 l := fun h => (hs.own l h).elim g3 (fun h => by have h : (κ.w.putObj l (.loop o')).heap.size ≤ l := h; simp at h; omega)
  have hS : ∀ o, ¬ κ4.S l o := fun o h => by
    rcases hs.snew l o h with q | q | q
    · exact b6 o q
    · have q : (κ.w.putObj l (.loop o')).heap.size ≤ l := q
      simp at q; omega
    · exact g3 q
  have hother : ∀ {b : Nat}, b ≠ n → (κ4.H.set n X)[b]? = κ4.H[b]? := fun h => by rw [List.getElem?_set_ne (by omega)]
  have hgo : ∀ {b : Nat}, b ≠ n → (goneC κ n).H[b]? = κ.H[b]? := fun h => by simp only [goneC]; rw [List.getElem?_set_ne (by omega)]
  have hρg : ∀ {b : Nat}, b ≠ n → (goneC κ n).ρ b = κ.ρ b := fun h => upd_other _ _ h
  have hk : Keep κ { S := κ4.S, w := κ4.w, ρ := upd κ4.ρ n (κ.ρ n), H := κ4.H.set n X } := by
    refine ⟨fun g o h => ⟨(hs.s g o h).1, (hcell g o).trans (hs.s g o h).2⟩, fun b ty cs sl hb => ?_, fun b el sz es sl hb => ?_, fun b el sz es g hb => ?_⟩
    · have e : b ≠ n := fun e => by subst e; rw [hn] at hb; cases hb
      obtain ⟨e1, cs', sl', e2⟩ := hs.box b ty cs sl ((hgo e).trans hb)
      exact ⟨(upd_other _ _ e).trans (e1.trans (hρg e)), cs', sl', (hother e).trans e2⟩
    · have e : b ≠ n := fun e => by subst e; rw [hn] at hb; cases hb
      obtain ⟨es', sl', e1, e2, e3⟩ := hs.row b el sz es sl ((hgo e).trans hb)
      exact ⟨es', sl', (hother e).trans e1, e2, fun h => (upd_other _ _ e).trans ((e3 h).trans (hρg e))⟩
    · have e : b ≠ n := fun e => by subst e; rw [hn] at hb; cases hb
      obtain ⟨es', g', e1, e2, e3⟩ := hs.rg b el sz es g ((hgo e).trans hb)
      exact ⟨es', g', (hother e).trans e1, e2, fun h => ⟨(e3 h).1, (upd_other _ _ e).trans ((e3 h).2.trans (hρg e))⟩⟩
  have hk4 : Keep κ4 { S := κ4.S, w := κ4.w, ρ := upd κ4.ρ n (κ.ρ n), H := κ4.H.set n X } := by
    refine ⟨fun g o h => ⟨h, SameAt.refl⟩, fun b ty cs sl hb => ?_, fun b el sz es sl hb => ?_, fun b el sz es g hb => ?_⟩
    · have e : b ≠ n := fun e => by subst e; rw [hg] at hb; cases hb
      exact ⟨upd_other _ _ e, cs, sl, (hother e).trans hb⟩
    · have e : b ≠ n := fun e => by subst e; rw [hg] at hb; cases hb
      exact ⟨es, sl, (hother e).trans hb, Nat.le_refl _, fun _ => upd_other _ _ e⟩
    · have e : b ≠ n := fun e => by subst e; rw [hg] at hb; cases hb
      exact ⟨es, g, (hother e).trans hb, Nat.le_refl _, fun _ => ⟨rfl, upd_other _ _ e⟩⟩
  have hlen : (κ4.H.set n X).length = κ4.H.length := by simp
  refine ⟨⟨fun b x hb => ?_, fun b b' hb hb' hn1 hn2 e => ?_, fun b hb hn1 => ?_, h4.swf, h4.gl⟩, ?_⟩
  · by_cases e : b = n
    · subst e
      have hb : (κ4.H.set b X)[b]? = some x := hb
      rw [List.getElem?_set_self hnl4] at hb
      cases hb
      exact hX hk hS
    · have hb : (κ4.H.set n X)[b]? = some x := hb
      rw [hother e] at hb
      exact (h4.blk b x hb).keep hk4 (upd_other _ _ e) (fun _ => rfl) (fun _ _ hs => hs)
  · have hb2 : b < κ4.H.length := by simpa using hb
    have hb2' : b' < κ4.H.length := by simpa using hb'
    clear hb hb'
    by_cases e1 : b = n <;> by_cases e2 : b' = n
    · omega
    · subst e1
      simp only [upd_same, upd_other κ4.ρ _ e2] at hn1 hn2 e
      exact (hno4 ⟨b', hb2', hn2, by rw [← e, b2]⟩).elim
    · subst e2
      simp only [upd_same, upd_other κ4.ρ _ e1] at hn1 hn2 e
      exact (hno4 ⟨b, hb2, hn1, by rw [e, b2]⟩).elim
    · simp only [upd_other κ4.ρ _ e1, upd_other κ4.ρ _ e2] at hn1 hn2 e
      exact h4.inj b b' hb2 hb2' hn1 hn2 e
  · have hb : b < κ4.H.length := by rw [← hlen]; exact hb
    by_cases e1 : b = n
    · subst e1
      simp only [upd_same] at hn1 ⊢
      rw [b2]; exact (Array.getElem?_eq_some_iff.1 hl4).1
    · simp only [upd_other κ4.ρ _ e1] at hn1 ⊢
      exact h4.lt b hb hn1
  · have hsz := hs.size
    simp only [World.putObj_size] at hsz
    refine { hk with os := hs.os, tape := hs.tape, output := hs.output, size := hsz, frame := fun g hg' ho => ?_, snew := fun g o hS' => ?_, own := fun g ⟨b, q1, q2, q3⟩ => ?_ }
    · have hgl : g ≠ l := fun e => ho ⟨n, hnl, b1, by rw [b2, e]⟩
      have := hs.frame g (by simpa using hg') (fun h => ho (g4 g h))
      rw [this]
      exact World.putObj_heap_other hgl
    · rcases hs.snew g o hS' with q | q | q
      · exact .inl q
      · exact .inr (.inl (by simpa using q))
      · exact .inr (.inr (g4 g q))
    · have q1 : b < κ4.H.length := by rw [← hlen]; exact q1
      by_cases e : b = n
      · subst e
        simp only [upd_same] at q2 q3
        exact .inl ⟨b, hnl, q2, q3⟩
      · simp only [upd_other κ4.ρ _ e] at q2 q3
        rcases hs.own g ⟨b, q1, q2, q3⟩ with q | q
        · exact .inl (g4 g q)
        · exact .inr (by simpa using q)
end
def RB (l nt n : Nat) (ps : Array Tmp) (assign body : Code) (env : Env) (m : Nat) (Q : AV → Heap → Prop) (e : Exit) (s : St) : Prop :=
  ∃ Hf, Wn m s ⟨[], Hf⟩ ∧ Hf[n]? = some .gone ∧ match e with
    | .normal => Q (.bool true) (Hf.set n (.loop l nt ps assign body env))
    | .ret => Q (.bool false) (Hf.set n (.lpe l .ret))
    | .exit id => Q (.bool false) (Hf.set n (.lpe l (.exit id)))
    | _ => False
theorem HCY.of_bodyG {P : Program} {l nt n : Nat} {ps : Array Tmp} {assign body : Code} {env : Env} {Ha : Heap} {args : List AV} {Q : AV → Heap → Prop} (hn : Ha[n]? = some (.loop l nt ps assign body env)) (hps : ps.toList.length = args.length) (hlt : ∀ p ∈ ps.toList, p < nt)
    (h : VC P nt Ha.length (fun _ _ => False) [.code assign, .back (fun s => VC P nt Ha.length (RB l nt n ps assign body env Ha.length Q) [.code body] s)] ⟨putPs ps.toList args env, Ha.set n .gone⟩) :
    HCY P l args Ha Q := by
  intro F κ cargs hF hc hH hv
  subst hH
  obtain ⟨b1, b2, fn, tmps, dfr, b3, b4, b5, b6⟩ := hc.blk _ _ hn
  obtain ⟨g1, g2, g3, g4⟩ := gone_ok hc hn
  have hcl : cargs.toArray.size = ps.size := by
    have h1 := hv.length
    have h2 : ps.toList.length = ps.size := Array.length_toList
    rw [List.size_toArray]; omega
  have hy := run_yield (P := P) (args := cargs.toArray) b3 hcl
  have hfold : ((ps.zip cargs.toArray).foldl (fun tmps (t, a) => tmps.setIfInBounds t a) tmps) = ((ps.toList.zip cargs).foldl (fun tmps (x : Nat × Value) => tmps.setIfInBounds x.1 x.2) tmps) := by
    rw [← Array.foldl_toList, Array.toList_zip]
  simp only [] at hy
  rw [hfold] at hy
  obtain ⟨z1, z2⟩ := putPs_ok (κ := goneC κ n) ps.toList args cargs env tmps (VL.mono g2.toKeep _ _ hv) hps (fun p hp => by rw [b4]; exact hlt p hp) (fun t => V.mono g2.toKeep _ _ (b5 t))
  refine ⟨fn, _, assign, body, hy, roundIn_of_wpIn (hF.fn fn) ?_⟩
  have hWF : WideE (F.inRound l) (goneC κ n) := by
    refine ⟨.inr ⟨l, ?_⟩, fun l' hl' => ?_⟩
    · rcases hF with rfl | ⟨l0, rfl⟩ <;> rfl
    · simp only [Fence.inRound_round, Option.some.injEq] at hl'
      subst hl'
      exact ⟨g3, _, b3⟩
  have hm : (goneC κ n).H.length = κ.H.length := by simp [goneC]
  have hgood : Good nt (goneC κ n) ⟨putPs ps.toList args env, κ.H.set n .gone⟩ { tmps := ((ps.toList.zip cargs).foldl (fun tmps (x : Nat × Value) => tmps.setIfInBounds x.1 x.2) tmps), defers := [] } κ.w :=
    ⟨goneC κ n, rfl, rfl, g1, .refl _, by rw [z1, b4], z2, by simp, fun d hd => by cases hd⟩
  refine wpIn_mono (h (F.inRound l) _ _ κ.w hWF hm hgood) ?_
  intro e a1 w1 hp1
  cases e with
  | normal =>
    obtain ⟨s1, hbody, hg1⟩ := hp1
    obtain ⟨hl1, hg2⟩ := Good.put2 (hg := hg1) (E := goneC κ n) (o' := .loop { state := .busy, pending := none, fn := fn, tmps := tmps, params := ps, assign := assign, body := body, defers := dfr }) b3 rfl rfl g3
    refine ⟨_, run_beginRound hl1 rfl, ?_⟩
    have hbl : (κ.w.putObj l (.loop { state := .busy, pending := none, fn := fn, tmps := tmps, params := ps, assign := assign, body := body, defers := dfr })).heap[l]? = some (.loop { state := .busy, pending := none, fn := fn, tmps := tmps, params := ps, assign := assign, body := body, defers := dfr }) := World.putObj_heap_same (Array.getElem?_eq_some_iff.1 b3).1
    have hWF2 : WideE (F.inRound l) { goneC κ n with w := (goneC κ n).w.putObj l (.loop { state := .busy, pending := none, fn := fn, tmps := tmps, params := ps, assign := assign, body := body, defers := dfr }) } := by
      refine ⟨hWF.1, fun l' hl' => ?_⟩
      simp only [Fence.inRound_round, Option.some.injEq] at hl'
      subst hl'
      exact ⟨g3, _, hbl⟩
    have fin : ∀ (jump : Option Code) (Hf : Heap) (X : Blk) (r : Bool) (a3 : Act) (w3 : World), r = jump.isNone → Hf[n]? = some .gone →
        ((jump = none ∧ X = .loop l nt ps assign body env) ∨ ∃ c, jump = some c ∧ X = .lpe l c) →
        Good nt { goneC κ n with w := (goneC κ n).w.putObj l (.loop { state := .busy, pending := none, fn := fn, tmps := tmps, params := ps, assign := assign, body := body, defers := dfr }) } ⟨[], Hf⟩ a3 w3 → Q (.bool r) (Hf.set n X) →
        ∃ v w', (Instr.endRound l jump).run P w3 = .ok v w' ∧ ∃ r c κ', (Ending.returned v : Ending) = .returned c ∧ Q r κ'.H ∧ κ'.w = w' ∧ Conc κ' ∧ StepM κ κ' ∧ V κ' r c := by
      intro jump Hf X r a3 w3 hr hgone hX hg4 hQ
      obtain ⟨hl3, hg5⟩ := Good.put2 (hg := hg4) (E := { goneC κ n with w := (goneC κ n).w.putObj l (.loop { state := .busy, pending := none, fn := fn, tmps := tmps, params := ps, assign := assign, body := body, defers := dfr }) }) (o' := .loop { state := if jump.isNone then .ready else .done, pending := jump, fn := fn, tmps := tmps, params := ps, assign := assign, body := body, defers := dfr }) hbl rfl rfl g3
      refine ⟨_, _, run_endRound jump hl3, ?_⟩
      obtain ⟨κ4, e1, e2, e3, e4, _⟩ := hg5
      have hE : ({ goneC κ n with w := ((goneC κ n).w.putObj l (.loop { state := .busy, pending := none, fn := fn, tmps := tmps, params := ps, assign := assign, body := body, defers := dfr })).putObj l (.loop { state := if jump.isNone then .ready else .done, pending := jump, fn := fn, tmps := tmps, params := ps, assign := assign, body := body, defers := dfr }) } : Cx) = { goneC κ n with w := κ.w.putObj l (.loop { state := if jump.isNone then .ready else .done, pending := jump, fn := fn, tmps := tmps, params := ps, assign := assign, body := body, defers := dfr }) } := by
        simp [World.putObj, goneC]
      have e4 : StepM { goneC κ n with w := κ.w.putObj l (.loop { state := if jump.isNone then .ready else .done, pending := jump, fn := fn, tmps := tmps, params := ps, assign := assign, body := body, defers := dfr }) } κ4 := hE ▸ e4
      have hl4 : κ4.w.heap[l]? = some (.loop { state := if jump.isNone then .ready else .done, pending := jump, fn := fn, tmps := tmps, params := ps, assign := assign, body := body, defers := dfr }) := by
        rw [e1]; exact World.putObj_heap_same (Array.getElem?_eq_some_iff.1 hl3).1
      have hHf : κ4.H = Hf := e2
      have hall := ungone hc hn κ4 X e3 e4 (by rw [hHf]; exact hgone) hl4 (fun hk hS => by
        rcases hX with ⟨rfl, rfl⟩ | ⟨c, rfl, rfl⟩
        · exact ⟨by simp only [upd_same]; exact b1, by simp only [upd_same]; exact b2, fn, tmps, dfr, by simpa using hl4, b4, fun t => V.mono hk _ _ (b5 t), hS⟩
        · exact ⟨by simp only [upd_same]; exact b1, by simp only [upd_same]; exact b2, ⟨_, hl4, by simp, rfl⟩, hS⟩)
        (fun _ _ _ e => by rcases hX with ⟨_, rfl⟩ | ⟨c, _, rfl⟩ <;> cases e) (fun _ _ _ _ e => by rcases hX with ⟨_, rfl⟩ | ⟨c, _, rfl⟩ <;> cases e) (fun _ _ _ _ e => by rcases hX with ⟨_, rfl⟩ | ⟨c, _, rfl⟩ <;> cases e)
      refine ⟨.bool r, .bool r, { S := κ4.S, w := κ4.w, ρ := upd κ4.ρ n (κ.ρ n), H := κ4.H.set n X }, by rw [hr], by simp only [hHf]; exact hQ, e1, hall.1, hall.2, rfl⟩
    refine wpIn_mono (hbody (F.inRound l) _ a1 _ hWF2 hm hg2) ?_
    intro e a3 w3 hp3
    obtain ⟨s3, ⟨Hf, hw3, hgone, hq⟩, hg3⟩ := hp3
    have hg4 := hw3.good (E := { goneC κ n with w := (goneC κ n).w.putObj l (.loop { state := .busy, pending := none, fn := fn, tmps := tmps, params := ps, assign := assign, body := body, defers := dfr }) }) hm hg3
    cases e with
    | normal => exact fin none Hf _ true a3 w3 rfl hgone (.inl ⟨rfl, rfl⟩) hg4 hq
    | ret => exact fin (some .ret) Hf _ false a3 w3 rfl hgone (.inr ⟨_, rfl, rfl⟩) hg4 hq
    | exit id => exact fin (some (.exit id)) Hf _ false a3 w3 rfl hgone (.inr ⟨_, rfl, rfl⟩) hg4 hq
    | goto t => exact hq.elim
    | panic c => exact hq.elim
    | outgrown => exact hq.elim
  | ret => obtain ⟨_, hf, _⟩ := hp1; exact hf.elim
  | exit id => obtain ⟨_, hf, _⟩ := hp1; exact hf.elim
  | goto t => obtain ⟨_, hf, _⟩ := hp1; exact hf.elim
  | panic c => obtain ⟨_, hf, _⟩ := hp1; exact hf.elim
  | outgrown => obtain ⟨_, hf, _⟩ := hp1; exact hf.elim
section
variable {P : Program} {nt m : Nat} {R : Exit → St → Prop} {k : List It} {st : St}
theorem VC.rangeG {g : Operand} {ps : Array Tmp} {assign body : Code} {gf : Nat} {caps : List AV} (hg : evA st.env g = .fn gf caps) (hm : m ≤ st.H.length)
    (h : ∀ l, HCH P gf (.yld l :: caps) (st.H ++ [.loop l nt ps assign body st.env]) fun r H' =>
      ∃ H2 x rest, H' = H2 ++ x :: rest ∧ H2.length = st.H.length ∧ belowH H2.length H2 ∧ belowE H2.length st.env ∧ ((x = .loop l nt ps assign body st.env ∧ VC P nt m R k ⟨st.env, H2⟩) ∨ ∃ c, x = .lpe l c ∧ VC P nt m R (.code c :: k) ⟨st.env, H2⟩)) :
    VC P nt m R (.code (.rangeFunc g ps assign body) :: k) st := by
  intro F E a w hF hE hgd
  obtain ⟨κ, rfl, h2, h3, h4, h5, h6, h7, h8⟩ := hgd.rho
  simp only [post]
  refine wpIn_rangeFunc ?_
  intro fn _
  obtain ⟨l, mark, w1, q1, q2, q3, q4, q5, q6, q7, ⟨dfr, q8⟩, q9⟩ := enter_loopP (P := P) (a := a) (ps := ps) (assign := assign) (body := body) hF h4 fn
  have hfv := h8.ev g
  rw [hg] at hfv
  obtain ⟨cc, e1, hl⟩ := hfv
  obtain ⟨c1, s1⟩ := h3.push (w' := w1) { blk := l, cap := 0, isNil := false } (.loop l nt ps assign body st.env) q2 q3 q4 (by omega) q7 (fun _ => ⟨q5, q6⟩) (fun hk => by
    simp only [BlkOk, upd_same]
    refine ⟨trivial, trivial, fn, a.tmps, dfr, q8, h5, fun t => V.mono hk _ _ (h6 t), fun o hS => ?_⟩
    have := h3.swf l o hS; omega)
  have hcall := (h l).2 { S := κ.S, w := w1, ρ := upd κ.ρ κ.H.length { blk := l, cap := 0, isNil := false }, H := κ.H ++ [.loop l nt ps assign body st.env] } (.func (.yield l) #[] #[] :: cc.toList) c1 (by simp only [h2]) ⟨_, _, rfl, rfl, VL.mono s1.toKeep _ _ hl⟩
  refine ⟨l, mark, w1, { target := .fn (.func gf) cc, args := #[.func (.yield l) #[] #[]] }, w1, gf, #[.func (.yield l) #[] #[]] ++ cc, w1, q1, ?_, ?_, ?_, ?_, ?_⟩
  · simp only [resolve, e1]
    simp [go_sem]
  · intro f' hf'; exact hF.1.fn _
  · simp [invoke, go_sem, (h l).1]
  · intro hd; rw [hF.1.depth] at hd; cases hd
  · have hargs : (.func (.yield l) #[] #[] :: cc.toList : List Value).toArray = #[.func (.yield l) #[] #[]] ++ cc := by apply Array.toList_inj.1; simp
    rw [hargs] at hcall
    refine hF.1.calls (hcall.mono ?_)
    rintro e w' ⟨r, c, κ', rfl, ⟨H2, x, rest, hH, hlen, hbH, hbE, hv⟩, rfl, k1, k2, _⟩
    have hn : H2.length < κ'.H.length := by rw [hH]; simp
    have htk : κ'.H.take H2.length = H2 := by rw [hH]; simp
    have hlb : κ'.H[H2.length]? = some x := by rw [hH]; simp
    have hbx : (κ'.ρ H2.length).isNil = false ∧ (κ'.ρ H2.length).blk = l ∧ ∃ rec : Loop, κ'.w.heap[l]? = some (.loop rec) ∧ rec.state ≠ .busy ∧ ((rec.pending = none ∧ VC P nt m R k ⟨st.env, H2⟩) ∨ ∃ c, rec.pending = some c ∧ VC P nt m R (.code c :: k) ⟨st.env, H2⟩) := by
      have hok := k1.blk _ _ hlb
      rcases hv with ⟨rfl, hv⟩ | ⟨c, rfl, hv⟩
      · obtain ⟨b1, b2, fn', tmps', dfr', b3, _⟩ := hok
        exact ⟨b1, b2, _, b3, by simp, .inl ⟨rfl, hv⟩⟩
      · obtain ⟨b1, b2, ⟨rec, b3, b4, b5⟩, _⟩ := hok
        exact ⟨b1, b2, rec, b3, b4, .inr ⟨c, b5, hv⟩⟩
    obtain ⟨b1, b2, rec, b3, b4, hv⟩ := hbx
    refine ⟨_, _, run_endLoop b3 b4, ?_⟩
    have s2 := h4.trans (s1.trans k2)
    have hct : Conc { κ' with H := κ'.H.take H2.length } := k1.trunc (by rw [htk]; exact hbH)
    have hno : ¬ Owned { κ' with H := κ'.H.take H2.length } l := fun ⟨b', r1, r2, r3⟩ => by
      have r1 : b' < (κ'.H.take H2.length).length := r1
      rw [List.length_take] at r1
      have := k1.inj b' H2.length (by omega) hn r2 b1 (by rw [b2]; exact r3)
      omega
    obtain ⟨d1, d2, d3⟩ := hct.putObj (o' := .loop { rec with state := .exhausted }) b3 rfl rfl hno
    have hEm : E.H.length ≤ H2.length := by omega
    have hsz : E.w.heap.size ≤ l := Nat.le_trans h4.size q5
    have hgood : Good nt E ⟨st.env, H2⟩ { a with defers := mark ++ a.defers } (κ'.w.putObj l (.loop { rec with state := .exhausted })) := ?_
    · rcases hv with ⟨e, hv⟩ | ⟨c, e, hv⟩
      · rw [e] at hgood ⊢; exact hv F E _ _ hF hE hgood
      · rw [e] at hgood ⊢; exact hv F E _ _ hF hE hgood
    refine ⟨_, rfl, htk, d1, d2 E hsz (s2.trunc hEm), h5, fun t => ?_, ?_, ?_⟩
    · exact V.mono d3 _ _ (V.trunc _ _ (belowE_get t hbE) (V.mono (s1.trans k2).toKeep _ _ (h6 t)))
    · rcases q9 with rfl | ⟨D, rfl, q10, _⟩
      · exact h7.1
      · refine List.nodup_cons.2 ⟨fun hmem => ?_, h7.1⟩
        obtain ⟨D', z1, z2, _⟩ := h7.2 _ hmem
        have := (Array.getElem?_eq_some_iff.1 z2).1
        have : D = D' := by simpa using z1
        omega
    · have old : ∀ D, κ'.w.heap[D]? = some (.deferred (some [])) → E.w.heap.size ≤ D → ¬ Owned κ' D → D ≠ l → ∃ D', ({ target := .collected D, args := #[] } : Deferred) = { target := .collected D', args := #[] } ∧ (κ'.w.putObj l (.loop { rec with state := .exhausted })).heap[D']? = some (.deferred (some [])) ∧ E.w.heap.size ≤ D' ∧ ¬ Owned { κ' with H := κ'.H.take H2.length, w := κ'.w.putObj l (.loop { rec with state := .exhausted }) } D' := fun D z1 z2 z3 z4 => by
        refine ⟨D, rfl, by rw [World.putObj_heap_other z4]; exact z1, z2, fun ⟨b', r1, r2, r3⟩ => z3 ⟨b', ?_, r2, r3⟩⟩
        have r1 : b' < (κ'.H.take H2.length).length := r1
        rw [List.length_take] at r1
        omega
      intro d hd
      rcases List.mem_append.1 hd with hd | hd
      · rcases q9 with rfl | ⟨D, rfl, q10, q11, q12⟩
        · cases hd
        · have : d = { target := .collected D, args := #[] } := by simpa using hd
          subst this
          have hD1 : ¬ Owned { S := κ.S, w := w1, ρ := upd κ.ρ κ.H.length { blk := l, cap := 0, isNil := false }, H := κ.H ++ [.loop l nt ps assign body st.env] } D := fun ⟨b', r1, r2, r3⟩ => by
            have r1 : b' < (κ.H ++ [Blk.loop l nt ps assign body st.env]).length := r1
            simp only [List.length_append, List.length_cons, List.length_nil] at r1
            by_cases e : b' = κ.H.length
            · subst e; simp only [upd_same] at r3; omega
            · simp only [upd_other κ.ρ _ e] at r2 r3
              have := h3.lt b' (by omega) r2; omega
          have hDlt := (Array.getElem?_eq_some_iff.1 q12).1
          refine old D ?_ (Nat.le_trans h4.size q10) (fun ho => ?_) q11
          · rw [k2.frame D hDlt hD1]; exact q12
          · rcases k2.own D ho with z | z
            · exact hD1 z
            · have z : w1.heap.size ≤ D := z
              omega
      · have hms := h7.2.step (s1.trans k2)
        obtain ⟨D, z1, z2, z3, z4⟩ := hms d hd
        subst z1
        obtain ⟨D', y1, y2, _⟩ := h7.2 _ hd
        have hDD : D = D' := by simpa using y1
        have := (Array.getElem?_eq_some_iff.1 y2).1
        exact old D z2 z3 z4 (by omega)
end
section
variable {P : Program} {nt m : Nat} {R : Exit → St → Prop} {k : List Iv} {st : St}
theorem HCY.bodyG {l n : Nat} {ps : Array Tmp} {assign body : Code} {env : Env} {Ha : Heap} {args : List AV} {Q : AV → Heap → Prop} (hn : Ha[n]? = some (.loop l nt ps assign body env)) (hps : ps.toList.length = args.length) (hlt : ∀ p ∈ ps.toList, p < nt)
    (h : vc P nt Ha.length (fun _ _ => False) [.code assign, .back (fun s => vc P nt Ha.length (RB l nt n ps assign body env Ha.length Q) [.code body] s)] ⟨putPs ps.toList args env, Ha.set n .gone⟩) :
    HCY P l args Ha Q :=
  HCY.of_bodyG hn hps hlt (((CV.run h).of _ ⟨_, rfl, _, rfl, rfl⟩).backMono fun s hs => (CV.run hs).of _ ⟨_, rfl, rfl⟩)
def RBL (l n : Nat) (LB : Blk) (m : Nat) (Q : AV → Heap → Prop) (e : Exit) (s : St) : Prop :=
  ∃ Hf, Wn m s ⟨[], Hf⟩ ∧ Hf[n]? = some .gone ∧ match e with
    | .normal => Q (.bool true) (Hf.set n LB)
    | .ret => Q (.bool false) (Hf.set n (.lpe l .ret))
    | .exit id => Q (.bool false) (Hf.set n (.lpe l (.exit id)))
    | _ => False
theorem HCY.bodyL {l n : Nat} {ps : Array Tmp} {assign body : Code} {env : Env} {Ha : Heap} {args : List AV} {Q : AV → Heap → Prop} {LB : Blk} (hLB : LB = .loop l nt ps assign body env) (hn : Ha[n]? = some LB) (hps : ps.toList.length = args.length) (hlt : ∀ p ∈ ps.toList, p < nt)
    (h : vc P nt Ha.length (fun _ _ => False) [.code assign, .back (fun s => vc P nt Ha.length (RBL l n LB Ha.length Q) [.code body] s)] ⟨putPs ps.toList args env, Ha.set n .gone⟩) :
    HCY P l args Ha Q := by
  subst hLB
  exact HCY.bodyG hn hps hlt h
theorem RBL.nm {l n : Nat} {LB : Blk} {m : Nat} {Q : AV → Heap → Prop} {s : St} (Hf : Heap) (h1 : Wn m s ⟨[], Hf⟩) (h2 : Hf[n]? = some .gone) (h3 : Q (.bool true) (Hf.set n LB)) : RBL l n LB m Q .normal s := ⟨Hf, h1, h2, h3⟩
theorem RBL.rt {l n : Nat} {LB : Blk} {m : Nat} {Q : AV → Heap → Prop} {s : St} (Hf : Heap) (h1 : Wn m s ⟨[], Hf⟩) (h2 : Hf[n]? = some .gone) (h3 : Q (.bool false) (Hf.set n (.lpe l .ret))) : RBL l n LB m Q .ret s := ⟨Hf, h1, h2, h3⟩
theorem RBL.ex {l n : Nat} {LB : Blk} {m : Nat} {Q : AV → Heap → Prop} {id : Nat} {s : St} (Hf : Heap) (h1 : Wn m s ⟨[], Hf⟩) (h2 : Hf[n]? = some .gone) (h3 : Q (.bool false) (Hf.set n (.lpe l (.exit id)))) : RBL l n LB m Q (.exit id) s := ⟨Hf, h1, h2, h3⟩
theorem CV.rangeG {g : Operand} {ps : Array Tmp} {assign body : Code} {gf : Nat} {caps : List AV} (hg : evA st.env g = .fn gf caps) (hm : m ≤ st.H.length)
    (h : ∀ l, HCH P gf (.yld l :: caps) (st.H ++ [.loop l nt ps assign body st.env]) fun r H' => ∃ H2 x rest, H' = H2 ++ x :: rest ∧ H2.length = st.H.length ∧ belowH H2.length H2 ∧ belowE H2.length st.env ∧ ((x = .loop l nt ps assign body st.env ∧ vc P nt m R k ⟨st.env, H2⟩) ∨ ∃ c, x = .lpe l c ∧ vc P nt m R (.code c :: k) ⟨st.env, H2⟩)) :
    CV P nt m R (.code (.rangeFunc g ps assign body) :: k) st := by
  refine CV.mk fun k' hr => ?_
  obtain ⟨r, rfl, hr'⟩ := hr
  refine VC.rangeG hg hm fun l => (h l).mono ?_
  rintro r0 H' ⟨H2, x, rest, e, e1, e2, e3, hv⟩
  exact ⟨H2, x, rest, e, e1, e2, e3, hv.imp (fun q => ⟨q.1, (CV.run q.2).of _ hr'⟩) fun ⟨c, q1, q2⟩ => ⟨c, q1, (CV.run q2).of _ ⟨_, rfl, hr'⟩⟩⟩
end
end Go.Fl
set_option linter.unusedSectionVars false
set_option linter.unusedSimpArgs false
set_option linter.unusedVariables false
namespace Go.Fl
open Go.RowKit
section
variable {P : Program} {b : Frame} {a : Act} {k : List Item} {cs : List Frame} {w : World}
theorem stepS_scope {c : Code} : step P (lone (b.atR a (.code (.scope c) :: k)) cs w) = .next (lone (b.atR a (.code c :: .inScope c :: k)) cs w) :=
  step_lone_go (by simp [stepG, stepG.exec, Frame.atR])
theorem stepS_inScope {c : Code} : step P (lone (b.atR a (.inScope c :: k)) cs w) = .next (lone (b.atR a k) cs w) :=
  step_lone_go (by simp [stepG, stepG.exec, Frame.atR])
theorem wpInS_scope {F : Fence} {n : Nat} {Q : Exit → Act → World → Prop} {c : Code} (h : c.wpIn F n P (Exit.noGoto Q) a w) : (Code.scope c).wpIn F n P Q a w := by
  intro b k cs hro hb hr
  have h0 : (lone (b.atR a (.code (.scope c) :: k)) cs w).fenced P F := fenced_calm hb hr rfl
  obtain ⟨e, a₁, w₁, hq, harr⟩ := h b (.inScope c :: k) cs hro hb hr
  cases e with
  | normal => exact ⟨.normal, a₁, w₁, hq, .head h0 stepS_scope (StepsIn.trans harr (.one (fenced_calm hb hr rfl) stepS_inScope))⟩
  | exit id =>
    have hx : exitTo id (.inScope c :: k) = exitTo id k := by simp [exitTo]
    exact ⟨.exit id, a₁, w₁, hq, fun k' hk => .head h0 stepS_scope (harr.1 k' (by rw [hx]; exact hk)),
      fun hr' hk => let ⟨k₁, h1, h2⟩ := harr.2 hr' (by rw [hx]; exact hk); ⟨k₁, h1, .head h0 stepS_scope h2⟩⟩
  | goto l => exact hq.elim
  | ret => exact ⟨_, a₁, w₁, hq, .of_steps (.one h0 stepS_scope) harr⟩
  | panic ch => exact ⟨_, a₁, w₁, hq, .of_steps (.one h0 stepS_scope) harr⟩
  | outgrown => exact ⟨_, a₁, w₁, hq, .of_steps (.one h0 stepS_scope) harr⟩
end
section
variable {P : Program} {nt m : Nat} {R : Exit → St → Prop} {k : List It} {st : St}
theorem post_goto {F : Fence} {E : Cx} {l : Nat} {a : Act} {w : World} : ∀ {k : List It}, post P F nt E R k (.goto l) a w → ∃ st, R (.goto l) st
  | [], ⟨st, h, _⟩ => ⟨st, h⟩
  | .inBlock _ :: k, h => post_goto (k := k) h
  | .code _ :: k, h => post_goto (k := k) h
  | .back _ :: k, h => post_goto (k := k) h
  | .ops _ _ :: k, h => post_goto (k := k) h
theorem VC.scope {c : Code} (hR : ∀ l st, ¬ R (.goto l) st) (h : VC P nt m R (.code c :: k) st) : VC P nt m R (.code (.scope c) :: k) st := fun F E a w hF hE hg =>
  wpInS_scope (wpIn_mono (h F E a w hF hE hg) fun e a w hp => by
    cases e with
    | goto l =>
      obtain ⟨st, h⟩ := post_goto (k := k) hp
      exact (hR l st h).elim
    | _ => exact hp)
theorem VC.label {l : Nat} (h : VC P nt m R k st) : VC P nt m R (.code (.label l) :: k) st := fun F E a w hF hE hg => wpIn_label (h F E a w hF hE hg)
end
section
variable {P : Program} {nt m : Nat} {R : Exit → St → Prop} {k : List Iv} {st : St}
theorem vc_scope_eq {c : Code} : vc P nt m R (.code (.scope c) :: k) st = CV P nt m R (.code (.scope c) :: k) st := by
  rw [vc]
  all_goals (intros; simp_all)
theorem vc_label_eq {l : Nat} : vc P nt m R (.code (.label l) :: k) st = CV P nt m R (.code (.label l) :: k) st := by
  rw [vc]
  all_goals (intros; simp_all)
theorem vc_scope {c : Code} (hR : ∀ l st, ¬ R (.goto l) st) (h : vc P nt m R (.code c :: k) st) : vc P nt m R (.code (.scope c) :: k) st := by
  rw [vc_scope_eq]
  refine CV.mk fun k' hr => ?_
  obtain ⟨r, rfl, hr'⟩ := hr
  exact VC.scope hR ((CV.run h).of _ ⟨r, rfl, hr'⟩)
theorem vc_label {l : Nat} (h : vc P nt m R k st) : vc P nt m R (.code (.label l) :: k) st := by
  rw [vc_label_eq]
  refine CV.mk fun k' hr => ?_
  obtain ⟨r, rfl, hr'⟩ := hr
  exact VC.label ((CV.run h).of _ hr')
theorem Ret.noGoto {rs : List ResultVar} {Q : AV → Heap → Prop} (l : Nat) (st : St) : ¬ Ret P rs Q (.goto l) st := fun h => by
  obtain ⟨h1, _⟩ := h
  rcases h1 with h1 | h1 <;> cases h1
end
end Go.Fl
set_option linter.unusedSectionVars false
set_option linter.unusedSimpArgs false
set_option linter.unusedVariables false
namespace Go.Fl
open Go.RowKit
theorem HCH.nilG {P : Program} {g : FuncId} {args : List AV} {H : Heap} {Q : AV → Heap → Prop} {i : Nat} {ty : TypeId} {es : List (List AV)} {sl : Bool} (hi : H[i]? = some (.row ty 1 es sl)) {j : Nat} (hj : es[j]? = some [.nilS]) (el : TypeId) (sz : Nat) (hsz : 0 < sz)
    (h1 : HCH P g args ((H ++ [Blk.rg el sz [] 0]).set i (.row ty 1 (es.set j [.rg H.length 0 0]) sl)) Q) : HCH P g args H Q := by
  refine ⟨h1.1, fun κ cargs hc hH hvl => ?_⟩
  subst hH
  obtain ⟨c1, c2⟩ := hc.nilG el sz hsz
  have hlt := (List.getElem?_eq_some_iff.1 hi).1
  have hjl := (List.getElem?_eq_some_iff.1 hj).1
  have hi2 : (κ.H ++ [Blk.rg el sz [] 0])[i]? = some (.row ty 1 es sl) := by rw [List.getElem?_append_left hlt]; exact hi
  obtain ⟨b1, b2, b3, b4⟩ := hc.blk _ _ hi
  have hb2 : ∀ e ∈ es.set j [AV.rg κ.H.length 0 0], e.length = 1 := fun e he => by
    rcases List.mem_or_eq_of_mem_set he with he | rfl
    · exact b2 e he
    · rfl
  obtain ⟨d1, d2⟩ := c1.mod (w' := κ.w) i (upd κ.ρ κ.H.length nilZ i) (.row ty 1 es sl) (.row ty 1 (es.set j [.rg κ.H.length 0 0]) sl) hi2 rfl rfl rfl (Nat.le_refl _) (fun _ _ _ => rfl) (fun _ _ _ => SameAt.refl)
    (fun hn => ⟨.inl rfl, by rw [upd_other _ _ (Nat.ne_of_lt hlt)] at hn ⊢; exact hc.lt i hlt hn⟩) ⟨rfl, rfl, by simp, fun _ => rfl⟩ (fun hk => by
      have hρ : upd (upd κ.ρ κ.H.length nilZ) i (upd κ.ρ κ.H.length nilZ i) i = κ.ρ i := by rw [upd_same, upd_other _ _ (Nat.ne_of_lt hlt)]
      simp only [BlkOk, hρ]
      refine ⟨b1, hb2, fun hn => ⟨(b3 hn).1, by rw [(b3 hn).2]; rfl⟩, fun hn => ?_⟩
      obtain ⟨⟨cur, q1, q2, q3, q4, q5, q6⟩, q7, q8⟩ := b4 hn
      refine ⟨⟨cur, q1, q2, by rw [List.length_set]; exact q3, q4, ?_, by rw [List.length_set]; exact q6⟩, by rw [List.length_set]; exact q7, q8⟩
      rw [List.length_set, flatten_set1 es j b2 hjl]
      have h1 := VL.mono (c2.toKeep.trans hk) _ _ q5
      refine VL.mk (by rw [List.length_set]; exact h1.length) fun k v c hv hc => ?_
      rw [List.getElem?_set] at hv
      split at hv
      · rename_i e
        subst e
        split at hv
        · cases hv
          obtain ⟨c', z1, z2⟩ := q5.get j _ (flatten_get1 es j b2 hj)
          rw [hc] at z1; cases z1
          exact V.mono hk _ _ (V.nilG z2)
        · cases hv
      · obtain ⟨c', z1, z2⟩ := h1.get k v hv
        rw [hc] at z1; cases z1
        exact z2)
  refine (h1.2 { S := κ.S, w := κ.w, ρ := upd (upd κ.ρ κ.H.length nilZ) i (upd κ.ρ κ.H.length nilZ i), H := (κ.H ++ [Blk.rg el sz [] 0]).set i (.row ty 1 (es.set j [.rg κ.H.length 0 0]) sl) } cargs d1 rfl (VL.mono (c2.trans d2).toKeep _ _ hvl)).mono ?_
  rintro e w' ⟨r, c, κ', e1, q, e2, k1, k2, k3⟩
  exact ⟨r, c, κ', e1, q, e2, k1, (c2.trans d2).trans k2, k3⟩
theorem HCH.nilGs {P : Program} {g : FuncId} {args : List AV} {Q : AV → Heap → Prop} {ty el : TypeId} {sz : Nat} (hsz : 0 < sz) {k : Nat} (pre suf : Heap) (sl : Bool)
    (h : HCH P g args (pre ++ .row ty 1 ((List.range k).map fun m => [.rg (pre.length + 1 + suf.length + m) 0 0]) sl :: (suf ++ (List.range k).map fun _ => .rg el sz [] 0)) Q) : HCH P g args (pre ++ .row ty 1 (List.replicate k [.nilS]) sl :: suf) Q := by
  have key : ∀ c, c ≤ k → HCH P g args (pre ++ .row ty 1 (((List.range c).map fun m => [.rg (pre.length + 1 + suf.length + m) 0 0]) ++ List.replicate (k - c) [.nilS]) sl :: (suf ++ (List.range c).map fun _ => .rg el sz [] 0)) Q → HCH P g args (pre ++ .row ty 1 (List.replicate k [.nilS]) sl :: suf) Q := by
    intro c
    induction c with
    | zero => intro _ h; simpa using h
    | succ c ih =>
      intro hc h
      refine ih (by omega) (HCH.nilG (i := pre.length) (j := c) (by rw [List.getElem?_append_right (Nat.le_refl _), Nat.sub_self]; rfl) ?_ el sz hsz ?_)
      · rw [List.getElem?_append_right (by simp)]
        simp only [List.length_map, List.length_range, Nat.sub_self]
        rw [List.getElem?_replicate, if_pos (by omega)]
      · have e : k - c = (k - (c + 1)) + 1 := by omega
        rw [List.append_assoc, List.set_append_right _ _ (Nat.le_refl _), Nat.sub_self]
        simp only [List.cons_append, List.set_cons_zero]
        rw [e, List.replicate_succ, List.set_append_right _ _ (by simp)]
        simp only [List.length_map, List.length_range, Nat.sub_self, List.set_cons_zero, List.length_append, List.length_cons]
        rw [show pre.length + (suf.length + c + 1) = pre.length + 1 + suf.length + c by omega]
        rw [List.range_succ, List.map_append, List.map_append] at h
        simpa using h
  exact key k (Nat.le_refl _) (by simpa using h)
end Go.Fl
set_option linter.unusedSectionVars false
set_option linter.unusedSimpArgs false
set_option linter.unusedVariables false
namespace Go.Fl
open Go.RowKit
theorem pvl_ints {κ : Cx} {S : Nat → Nat → Prop} {w : World} : ∀ {l : List Int} {cs : List Value}, VL κ (l.map encN).flatten cs → PVL S w (l.map encN).flatten cs
  | [], cs, h => h
  | x :: l, cs, h => by
    simp only [List.map_cons, List.flatten_cons, encN, List.cons_append, List.nil_append] at h ⊢
    obtain ⟨c, cs', e, h1, h2⟩ := h
    exact ⟨c, cs', e, h1, pvl_ints h2⟩
theorem HCH.cloneL {P : Program} {f : FuncId} {args args' : List AV} {H : Heap} {el : TypeId} {l : List Int} (h : HCH P f args' [] fun r H' => r = .row 0 l.length ∧ H' = [.row el 1 (l.map encN) false]) (ha : frzL H args args') :
    HCH P f args H fun r H' => r = lN l ∧ H' = H := by
  refine ⟨h.1, fun κ cargs hc hH hv => ?_⟩
  subst hH
  have hc0 : Conc { S := sealed κ, w := κ.w, ρ := κ.ρ, H := [] } := ⟨fun b x hb => by simp at hb, fun b b' hb => by simp at hb, fun b hb => by simp at hb, fun g o hs => hs.elim (hc.swf g o) (fun ⟨b, h1, h2, h3⟩ => by rw [← h3]; exact hc.lt b h1 h2), hc.gls (κ' := { S := sealed κ, w := κ.w, ρ := κ.ρ, H := [] }) fun g o hs => ⟨.inl hs, SameAt.refl⟩⟩
  refine (h.2 { S := sealed κ, w := κ.w, ρ := κ.ρ, H := [] } cargs hc0 rfl (VL.of_pvl (κ := { S := sealed κ, w := κ.w, ρ := κ.ρ, H := [] }) _ _ (frzL_ok hc _ _ _ ha hv))).mono ?_
  rintro e w' ⟨r, c, κ2, rfl, ⟨rfl, hH2⟩, rfl, k1, k2, k3⟩
  have hb : κ2.H[0]? = some (.row el 1 (l.map encN) false) := by rw [hH2]; rfl
  have hp : pureE (l.map encN) := by rw [pureN]; trivial
  have hlen : (l.map encN).length = l.length := by simp
  have s1 := k1.sealRow hb hp
  have s2 := StepM.sealRow k1 hb hp k2
  have s3 : Conc { sealC κ2 0 el 1 (l.map encN) with H := (sealC κ2 0 el 1 (l.map encN)).H.take 0 } := s1.trunc (n := 0) (by simp [belowH])
  have s4 := s2.trunc (n := 0) (Nat.zero_le _)
  obtain ⟨κ', q0, q1, q2, q3, q4, _⟩ := take_overS hc s4 s3 (fun g o => κ.S g o ∨ (κ.w.heap.size ≤ g ∧ (sealC κ2 0 el 1 (l.map encN)).S g o)) (fun g o hs => ⟨.inl hs, .inl hs⟩) (fun g o hs => hs) .any c trivial (.inl ⟨rfl, by simp [safeH]⟩)
  refine ⟨_, c, κ', rfl, ⟨rfl, by rw [q2]; simp⟩, q1, q3, q4, ?_⟩
  show PV κ'.S κ'.w (lN l) c
  rw [q0, q1]
  obtain ⟨_, el', sz', es', sl', hb', hle, e⟩ := k3
  rw [hb] at hb'; cases hb'
  rw [e hlen]
  obtain ⟨hsz, hes, hnil, hrow⟩ := k1.blk 0 _ hb
  have hbl := (List.getElem?_eq_some_iff.1 hb).1
  cases hq : (κ2.ρ 0).isNil with
  | true =>
    obtain ⟨h1, h2⟩ := hnil hq
    have h0 : l = [] := by simpa using h2
    subst h0
    exact ⟨(κ2.ρ 0).adr, 0, by simp [rowVal, hq, h1], by simp, by simp [maxLen], fun _ => rfl, fun ad ha => ⟨fun hne => absurd rfl hne, trivial⟩, fun _ => rfl, by simp⟩
  | false =>
    obtain ⟨⟨cur, a1, a2, a3, a4, a5, a6⟩, _⟩ := hrow hq
    have hnew : κ.w.heap.size ≤ (κ2.ρ 0).blk := by
      rcases k2.own (κ2.ρ 0).blk ⟨0, hbl, hq, rfl⟩ with ⟨b, q1, _⟩ | q1
      · simp at q1
      · exact q1
    refine ⟨some ⟨(κ2.ρ 0).blk, 0, none⟩, (κ2.ρ 0).cap, by simp [rowVal, hq], a3, a4, (fun e => by cases e), fun ad ha => ?_, (fun e => by cases e), hes⟩
    cases ha
    refine ⟨fun _ => rfl, pve_of_cells _ _ rfl hes (pvc_of _ _ 0 (pvl_ints a5) a6 (fun j u hu => ?_))⟩
    rw [List.getElem?_take] at hu
    split at hu
    · rename_i hj
      refine ⟨?_, .inr ⟨hnew, .inr ⟨hq, rfl, by simpa using hj⟩⟩⟩
      show κ2.w.cell? _ = _
      rw [Nat.zero_add, cell_of_row κ2.w _ j cur el (0, 0) a1]
      simpa using hu
    · cases hu
end Go.Fl
set_option linter.unusedSectionVars false
set_option linter.unusedSimpArgs false
set_option linter.unusedVariables false
namespace Go.Fl
open Go.RowKit Go.ChangeShapes Go.WideShapes Go.Deep
def S0 (W : World) (g o : Nat) : Prop := (W.cell? ⟨g, o, none⟩).isSome = true
def κ0 (W : World) : Cx := { S := S0 W, w := W, ρ := fun _ => ⟨0, 0, true, none⟩, H := [] }
theorem κ0_conc (W : World) (hg : ∀ x, x ∈ gtab → PVC (S0 W) W (x.2.2.map (.int x.2.1)) ⟨x.1, 0, none⟩) : Conc (κ0 W) := by
  refine ⟨fun b x hb => (by have hb : ([] : Heap)[b]? = some x := hb; simp at hb), fun b b' hb => absurd hb (Nat.not_lt_zero _), fun b hb => absurd hb (Nat.not_lt_zero _), fun g o hs => ?_, hg⟩
  have hs : (W.cell? ⟨g, o, none⟩).isSome = true := hs
  show g < W.heap.size
  unfold World.cell? at hs
  cases h : W.heap[g]? with
  | none => simp [h] at hs
  | some x => exact (Array.getElem?_eq_some_iff.1 h).1
theorem below_of {W : World} {κ' : Cx} (h : StepM (κ0 W) κ') : Below W.heap.size W κ'.w :=
  ⟨h.os, h.tape, h.output, h.size, fun k hk => h.frame k hk fun ⟨b, hb, _⟩ => absurd hb (Nat.not_lt_zero _)⟩
def flatOk (P : Program) (e : TypeId) (sz : Nat) : Bool :=
  match P.underlying e with
  | some (.struct fs) => fs.size == sz && oneCellFields P fs && fs.toList.all fun f => match P.underlying f.type with | some (.int .i64) => true | _ => false
  | some (.int .i64) => sz == 1
  | _ => false
def sliceFlat (P : Program) (t : TypeId) (sz : Nat) : Bool := match P.underlying t with | some (.slice e) => P.cellsOf e == sz && flatOk P e sz | _ => false
def structTys (P : Program) (t : TypeId) : Option (List TypeId) :=
  match P.underlying t with
  | some (.struct fs) => if oneCellFields P fs && P.cellTypes P.depth t == some (fs.toList.map (·.type)) then some (fs.toList.map (·.type)) else none
  | _ => none
def intT (P : Program) (t : TypeId) : Bool := match P.underlying t with | some (.int .i64) => true | _ => false
abbrev iv (n : Int) : AV := .int .i64 n
section
variable {H : Type} {enc : TypeId × Value → H} {P : Program} {W : World} {base : Nat} {spare : Nat → Bool} {held : Bool}
theorem read_flat {e : TypeId} {sz n : Nat} {cs : List Value} {x : DataW H × List MemPlace} (hf : flatOk P e sz = true) (hl : cs.length = sz) (h : DataW.trod enc P W base spare held n e cs = some x) : ∃ ns : List Int, ns.length = sz ∧ cs = ns.map (Value.int .i64) := by
  unfold flatOk at hf
  split at hf
  · rename_i fs hs
    simp only [Bool.and_eq_true, beq_iff_eq, List.all_eq_true] at hf
    obtain ⟨⟨h1, h2⟩, h3⟩ := hf
    obtain ⟨ys, n', _, _, _, hyl, hg⟩ := DataW.trod_struct hs h
    have key : ∀ j (hj : j < cs.length), ∃ k : Int, cs[j] = .int .i64 k := by
      intro j hj
      have hjf : j < fs.size := by omega
      have hfj : fs[j]? = some fs[j] := Array.getElem?_eq_getElem hjf
      obtain ⟨ho, hk⟩ := hone_of h2 j _ hfj
      have ht := hg j _ hfj
      rw [ho, hk] at ht
      have hone : (cs.drop j).take 1 = [cs[j]] := by rw [List.drop_eq_getElem_cons hj]; rfl
      rw [hone, List.getElem?_eq_getElem (by omega)] at ht
      have h4 := h3 fs[j] (by simp)
      split at h4
      · rename_i hi
        obtain ⟨k, hk, _⟩ := DataW.trod_int hi ht
        exact ⟨k, by simpa using hk⟩
      · cases h4
    refine ⟨cs.map fun v => match v with | .int _ k => k | _ => 0, by simpa using hl, ?_⟩
    apply List.ext_getElem
    · simp
    · intro j hj _
      obtain ⟨k, hk⟩ := key j hj
      simp [hk]
  · rename_i hi
    obtain ⟨k, hk, _⟩ := DataW.trod_int hi h
    exact ⟨[k], by simpa [hk] using hl, by simpa using hk⟩
  · cases hf
theorem PVC.of_ints {g : Nat} : ∀ (ns : List Int) (off : Nat), (∀ (j : Nat) (n : Int), ns[j]? = some n → W.cell? ⟨g, off + j, none⟩ = some (.int .i64 n)) → PVC (S0 W) W (ns.map iv) ⟨g, off, none⟩
  | [], _, _ => trivial
  | n :: ns, off, h => by
    have h0 := h 0 n rfl
    refine ⟨⟨.int .i64 n, h0, by show (W.cell? ⟨g, off, none⟩).isSome = true; rw [show W.cell? ⟨g, off, none⟩ = _ from h0]; rfl, rfl, rfl⟩, PVC.of_ints ns (off + 1) fun j m hj => ?_⟩
    have := h (j + 1) m (by simpa using hj)
    rwa [show off + (j + 1) = off + 1 + j from by omega] at this
theorem PVE.of_get {g sz : Nat} : ∀ (es : List (List AV)) (off : Nat), (∀ (i : Nat) (e : List AV), es[i]? = some e → PVC (S0 W) W e ⟨g, off + i * sz, none⟩) → PVE (S0 W) W sz es ⟨g, off, none⟩
  | [], _, _ => trivial
  | e :: es, off, h => by
    refine ⟨by simpa using h 0 e rfl, PVE.of_get es (off + sz) fun i e' he => ?_⟩
    have := h (i + 1) e' (by simpa using he)
    rwa [show off + (i + 1) * sz = off + sz + i * sz from by rw [Nat.add_mul]; omega] at this
theorem lift_slice {t : TypeId} {sz fuel : Nat} {a : Option Addr} {len cap : Nat} {x : DataW H × List MemPlace} (hsp : ∀ ad, a = some ad → ad.spot = none) (ht : sliceFlat P t sz = true) (h : DataW.trod enc P W base spare held fuel t [.slice a len cap] = some x) :
    ∃ ess : List (List Int), (∀ e, e ∈ ess → e.length = sz) ∧ PV (S0 W) W (.lst false sz (ess.map fun e => e.map iv)) (.slice a len cap) := by
  unfold sliceFlat at ht
  split at ht
  · rename_i e hs
    simp only [Bool.and_eq_true, beq_iff_eq] at ht
    obtain ⟨hC, hf⟩ := ht
    rcases open_slice hs h with ⟨hcs, _⟩ | ⟨a', len', cap', m, n, D, Pl, hcs, hb, hl, hm, hmm, hx, hi⟩
    · simp only [List.cons.injEq, Value.slice.injEq, and_true] at hcs
      obtain ⟨rfl, rfl, rfl⟩ := hcs
      exact ⟨[], by simp, none, 0, rfl, by simp, by simp [maxLen], by simp, by simp, by simp, by simp⟩
    · simp only [List.cons.injEq, Value.slice.injEq, and_true] at hcs
      obtain ⟨rfl, rfl, rfl⟩ := hcs
      have hlm : len ≤ m := by rw [hmm]; split <;> omega
      have hspa := hsp _ rfl
      obtain ⟨g, off, sp⟩ := a'
      simp only at hspa
      subst hspa
      have key : ∀ i, i < len → ∃ ns : List Int, ns.length = sz ∧ ∀ (j : Nat) (k : Int), ns[j]? = some k → W.cell? ⟨g, off + i * sz + j, none⟩ = some (.int .i64 k) := by
        intro i hil
        obtain ⟨cs', hc, htr⟩ := hi i (by omega)
        obtain ⟨_, hcl, hat⟩ := World.cells?_some hc
        rw [hC] at hcl hat
        obtain ⟨ns, h1, h2⟩ := read_flat hf hcl htr
        refine ⟨ns, h1, fun j k hj => ?_⟩
        have hjl : j < sz := by have := (List.getElem?_eq_some_iff.1 hj).1; omega
        have := hat j hjl
        rw [h2, List.getElem?_map, hj, add_add] at this
        unfold Addr.add at this
        split at this
        · rename_i h0
          rw [show off + i * sz + j = off from by omega]; exact this
        · rw [show off + i * sz + j = off + (i * sz + j) from by omega]; exact this
      classical
      refine ⟨(List.range len).map fun i => if hh : i < len then Classical.choose (key i hh) else [], fun e he => ?_, some ⟨g, off, none⟩, cap, by simp, by simpa using hl, hm, by simp, fun ad ha => ?_, by simp, fun e he => ?_⟩
      · obtain ⟨i, hi2, rfl⟩ := List.mem_map.1 he
        have hil := List.mem_range.1 hi2
        rw [dif_pos hil]
        exact (Classical.choose_spec (key i hil)).1
      · cases ha
        refine ⟨fun _ => rfl, PVE.of_get _ _ fun i e he => ?_⟩
        rw [List.getElem?_map, List.getElem?_map] at he
        have hil : i < len := by
          rcases Nat.lt_or_ge i len with h | h
          · exact h
          · rw [List.getElem?_eq_none (by simpa using h)] at he; cases he
        rw [List.getElem?_range hil] at he
        simp only [Option.map_some, dif_pos hil, Option.some.injEq] at he
        subst he
        exact PVC.of_ints _ _ (Classical.choose_spec (key i hil)).2
      · obtain ⟨e0, he0, rfl⟩ := List.mem_map.1 he
        obtain ⟨i, hi2, rfl⟩ := List.mem_map.1 he0
        have hil := List.mem_range.1 hi2
        rw [dif_pos hil, List.length_map]
        exact (Classical.choose_spec (key i hil)).1
  · cases ht
theorem cell_slice2 {r : Reach} {b0 : Nat} {t : TypeId} {v : Value} (ht : (match P.underlying t with | some (.slice _) => true | _ => false) = true) (hv : Cell.okWide P W r b0 t v) : ∃ a len cap, v = .slice a len cap ∧ ∀ ad, a = some ad → ad.spot = none := by
  split at ht
  · rename_i e hs
    simp only [Cell.okWide, hs, Cell.ok] at hv
    split at hv
    all_goals first | (rename_i h1 _; cases h1; done) | (rename_i h1; cases h1; done) | skip
    all_goals simp_all
    all_goals first | exact hv.2.2.2.1 | (obtain ⟨_, _, _, h, _⟩ := hv; exact h) | skip
  · cases ht
theorem cell_slice {r : Reach} {b0 : Nat} {t : TypeId} {sz : Nat} {v : Value} (ht : sliceFlat P t sz = true) (hv : Cell.okWide P W r b0 t v) : ∃ a len cap, v = .slice a len cap ∧ ∀ ad, a = some ad → ad.spot = none := by
  unfold sliceFlat at ht
  split at ht
  · rename_i e hs
    simp only [Cell.okWide, hs, Cell.ok] at hv
    split at hv
    all_goals first | (rename_i h1 _; cases h1; done) | (rename_i h1; cases h1; done) | skip
    all_goals simp_all
    all_goals first | exact hv.2.2.2.1 | (obtain ⟨_, _, _, h, _⟩ := hv; exact h) | skip
    all_goals trace_state
  · cases ht
end
end Go.Fl
set_option linter.unusedSectionVars false
set_option linter.unusedSimpArgs false
set_option linter.unusedVariables false
namespace Go.Fl
open Go.RowKit Go.ChangeShapes Go.WideShapes Go.Deep
def structOk (P : Program) (t : TypeId) (tys : List TypeId) : Bool := structTys P t == some tys && P.cellsOf t == tys.length
section
variable {H : Type} {enc : TypeId × Value → H} {P : Program} {W : World} {base : Nat} {spare : Nat → Bool} {held : Bool}
theorem lift_struct {t : TypeId} {tys : List TypeId} {r : Reach} {b0 : Nat} {v : Value} {d : DataW H} {p : List MemPlace} (hst : structOk P t tys = true) (hv : Value.okWide P W r b0 t v) (h : DataW.Trod enc P W base spare held t v d p) :
    ∃ cs : List Value, v = .agg cs.toArray ∧ cs.length = tys.length ∧ ∀ (j : Nat) (c : Value) (u : TypeId), cs[j]? = some c → tys[j]? = some u → Cell.okWide P W r b0 u c ∧ ∃ n y, DataW.trod enc P W base spare held n u [c] = some y := by
  unfold structOk at hst
  simp only [Bool.and_eq_true, beq_iff_eq] at hst
  obtain ⟨hst, hcz⟩ := hst
  unfold structTys at hst
  split at hst
  · rename_i fs hs
    split at hst
    · rename_i hc
      simp only [Bool.and_eq_true, beq_iff_eq] at hc
      obtain ⟨hone, hct⟩ := hc
      cases hst
      simp only [Value.okWide, hs] at hv
      obtain ⟨cs, rfl, hsz, ts, hts, _, hrow⟩ := hv
      rw [hct] at hts
      cases hts
      have hsz2 : cs.size = fs.size := by rw [hsz, hcz]; simp
      refine ⟨cs.toList, by simp, by simp [hsz2], fun j c u hj hu => ?_⟩
      have hj' : cs[j]? = some c := by simpa using hj
      have hjl : j < fs.size := by have := (Array.getElem?_eq_some_iff.1 hj').1; omega
      obtain ⟨u', hu', hok⟩ := hrow j c hj'
      rw [Nat.mod_eq_of_lt (by simpa using hjl), hu] at hu'
      cases hu'
      refine ⟨hok, ?_⟩
      obtain ⟨fuel, hf⟩ := h
      obtain ⟨ys, n', _, _, _, hyl, hg⟩ := DataW.trod_struct hs hf
      have hfj : fs[j]? = some fs[j] := Array.getElem?_eq_getElem hjl
      obtain ⟨ho, hk⟩ := hone_of hone j _ hfj
      have hty : u = fs[j].type := by
        rw [List.getElem?_map] at hu
        simp [hjl] at hu
        exact hu.symm
      have ht := hg j _ hfj
      rw [ho, hk] at ht
      have hcells : (Value.cells (.agg cs)).toList = cs.toList := by simp [Value.cells]
      rw [hcells] at ht
      have hjl2 : j < cs.toList.length := by simp; omega
      have h1 : (cs.toList.drop j).take 1 = [c] := by
        rw [List.drop_eq_getElem_cons hjl2]
        have : cs.toList[j] = c := by
          have := List.getElem?_eq_getElem hjl2
          rw [this] at hj
          exact Option.some.inj hj
        rw [this]; rfl
      rw [h1, List.getElem?_eq_getElem (by omega)] at ht
      exact ⟨n', _, by rw [hty]; exact ht⟩
    · cases hst
  · cases hst
theorem read_int {t : TypeId} {n : Nat} {c : Value} {y : DataW H × List MemPlace} (ht : intT P t = true) (h : DataW.trod enc P W base spare held n t [c] = some y) : ∃ k : Int, c = .int .i64 k := by
  unfold intT at ht
  split at ht
  · rename_i hi
    obtain ⟨k, hk, _⟩ := DataW.trod_int hi h
    exact ⟨k, by simpa using hk⟩
  · cases ht
theorem lift_ints {t : TypeId} {sz : Nat} {r : Reach} {b0 : Nat} {v : Value} {d : DataW H} {p : List MemPlace} (ht : sliceFlat P t sz = true) (hv : Value.okWide P W r b0 t v) (h : DataW.Trod enc P W base spare held t v d p) :
    ∃ ess : List (List Int), (∀ e, e ∈ ess → e.length = sz) ∧ PV (S0 W) W (.lst false sz (ess.map fun e => e.map iv)) v := by
  have hs : ∃ e, P.underlying t = some (.slice e) := by
    unfold sliceFlat at ht
    split at ht
    · exact ⟨_, by assumption⟩
    · cases ht
  obtain ⟨e, hs⟩ := hs
  have hv' : Cell.okWide P W r b0 t v := by simpa only [Value.okWide, hs] using hv
  obtain ⟨a, len, cap, rfl, hsp⟩ := cell_slice ht hv'
  obtain ⟨fuel, hf⟩ := h
  exact lift_slice hsp ht (by simpa [Value.cells] using hf)
theorem Below.trodAll {W' : World} {spare' : Nat → Bool} (hl : laidOutB P = true) (hb : Below W.heap.size W W') : ∀ (ts : List TypeId) (vs : List Value) (ds : List (DataW H)) (ps : List MemPlace), (∀ t ∈ ts, P.readableRec t = true ∧ t < P.types.size) →
    DataW.TrodAll enc P W 0 (fun _ => true) true ts vs ds ps → (∀ x ∈ ps, x.block < W.heap.size ∧ spare' x.block = true) → DataW.TrodAll enc P W' 0 spare' true ts vs ds ps
  | [], [], [], _, _, h, _ => h
  | t :: ts, v :: vs, d :: ds, _, hr, ⟨p, q, h1, h2, e⟩, hs => by
    subst e
    exact ⟨p, q, WideElems.Trod_stays hl (hr t (by simp)).1 (hr t (by simp)).2 h1 (fun x hx => hb.same (hs x (by simp [hx])).1) (fun x hx => (hs x (by simp [hx])).2),
      Below.trodAll hl hb ts vs ds q (fun t' ht => hr t' (by simp [ht])) h2 (fun x hx => hs x (by simp [hx])), rfl⟩
theorem post_true {f : Func} {s : ChangeSpec} {apart fresh handsOn again : Bool} {W W' : World} {args : Array Value} {ds gs : List (DataW H)} {before : List MemPlace} {tb : TypeId}
    (hW : DataW.Whole enc P f.params.toList s.vars apart W args.toList ds gs before) (hb : Below W.heap.size W W') (hres : f.resultTypes = #[tb]) (hbool : P.underlying tb = some .bool) (hvars : s.vars = [])
    (hspec : s.fn H (ds ++ []) = { results := [.lit (.bool true)], args := ds }) (hl : laidOutB P = true) (hr : ∀ t ∈ f.params.toList, P.readableRec t = true ∧ t < P.types.size) :
    s.post enc P f apart fresh handsOn again W args (.bool true) W' := by
  have hW0 := hW
  obtain ⟨p, q, hA, hV, rfl, hz, hn⟩ := hW
  rw [hvars] at hV
  obtain ⟨rfl, rfl⟩ := trodVars_none hV
  have hlt : ∀ x ∈ p, x.block < W.heap.size := fun x hx => hW0.lt x (by simp [hx])
  have hargs : ∀ sp : Nat → Bool, (∀ x ∈ p, sp x.block = true) → DataW.TrodAll enc P W' 0 sp true f.params.toList args.toList (s.fn H (ds ++ [])).args p := fun sp hsp => by
    rw [hspec]; exact Below.trodAll hl hb _ _ _ _ hr hA fun x hx => ⟨hlt x hx, hsp x hx⟩
  have hresd : ∀ (b : Nat) (sp : Nat → Bool) (hd : Bool), DataW.TrodAll enc P W' b sp hd f.resultTypes.toList ((Value.bool true).resultList f.resultTypes.size) (s.fn H (ds ++ [])).results [] := fun b sp hd => by
    rw [hspec, hres]; exact trodAll_mk1 (shut_bool hbool true)
  have hvs : ∀ sp : Nat → Bool, DataW.TrodVars enc P W' sp s.vars (s.fn H (ds ++ [])).vars [] := fun sp => by
    rw [hspec, hvars]; rfl
  have hold : ∀ x ∈ p, (fun b => decide (b < W.heap.size)) x.block = true := fun x hx => by simpa using hlt x hx
  refine ⟨ds, [], p ++ [], [], p, [], hW0, hresd _ _ _, hargs _ hold, hvs _, World.keptBut_mono (fun x hx => ⟨hx, ?_⟩) (hb.frame (· ∈ p ++ [])), fun _ => ?_⟩
  · exact Or.inr (List.mem_append.1 hx)
  · refine ⟨ok_one hres rfl (okWide_bool_mk hbool true), _, _, ([] ++ p) ++ [], ⟨[] ++ p, [], trodAll_append (hargs _ (fun _ _ => rfl)) (hresd _ _ _), hvs _, rfl, ?_, ?_⟩, ?_⟩
    · intro b off hp
      have hp' : MemPlace.cell b off ∈ p := by simpa using hp
      rw [hb.frozen (p := ⟨b, off, none⟩) (hlt _ hp')]
      exact hz b off (by simpa using hp)
    · intro ha
      simpa using hn ha
    · intro x hx _
      simpa using hx
end
end Go.Fl
set_option linter.unusedSectionVars false
set_option linter.unusedSimpArgs false
set_option linter.unusedVariables false
namespace Go.Fl
open Go.RowKit Go.ChangeShapes Go.WideShapes Go.Deep
theorem trodAll_length {H : Type} {enc : TypeId × Value → H} {P : Program} {W : World} {base : Nat} {spare : Nat → Bool} {held : Bool} : ∀ {ts : List TypeId} {vs : List Value} {ds : List (DataW H)} {ps : List MemPlace}, DataW.TrodAll enc P W base spare held ts vs ds ps → vs.length = ts.length ∧ ds.length = ts.length
  | [], [], [], _, _ => ⟨rfl, rfl⟩
  | _ :: _, _ :: _, _ :: _, _, ⟨_, _, _, h, _⟩ => by have := trodAll_length h; simp [this]
theorem law_lifted {H : Type} {enc : TypeId × Value → H} {a : Assume} {C : Checked} {os : Os} {f : FuncId} {fn : Func} {s : ChangeSpec} {conds : List PathCond} {apart fresh handsOn again : Bool} {tb : TypeId}
    (own : ownKnob C.prog.godebug = none) (started : os.Started) (noInit : C.prog.inits.idxOf? f = none) (hfn : C.prog.funcs[f]? = some fn)
    (witness : ∃ (w : World) (tape : Tape) (i : Input), w.os = os ∧ (w.forCall tape i).Shaped C.prog ∧ i.vars = [] ∧ Input.okWide C.prog (w.forCall tape i) .any w.heap.size f i ∧
      s.pre6 enc C.prog fn conds apart (w.forCall tape i).memory i.args ∧ a.holds C.prog (lone (Frame.enter C.prog f i.args .normal) [] (w.forCall tape i)))
    (hres : fn.resultTypes = #[tb]) (hbool : C.prog.underlying tb = some .bool) (hvars : s.vars = [])
    (hspec : ∀ ds : List (DataW H), ds.length = fn.params.size → s.fn H (ds ++ []) = { results := [.lit (.bool true)], args := ds })
    (hl : laidOutB C.prog = true) (hr : (fn.params.toList.all fun t => C.prog.readableRec t && decide (t < C.prog.types.size)) = true)
    (hlaw : ∀ (W : World) (base : Nat) (args : Array Value) (ds : List (DataW H)) (p : List MemPlace), (∀ (j : Nat) t v, fn.params[j]? = some t → args[j]? = some v → Value.okWide C.prog W .any base t v) →
      DataW.TrodAll enc C.prog W 0 (fun _ => true) true fn.params.toList args.toList ds p → ∃ avs, PC C.prog f avs (.bool true) ∧ VL (κ0 W) avs args.toList) (hnil : gtab = [] := by rfl) :
    ReturnsInHanded a C os f .any (s.pre6 enc C.prog fn conds apart) (s.post enc C.prog fn apart fresh handsOn again) := by
  refine returnsInHanded_of_change own started noInit hfn witness ?_
  intro W base args ds gs before hval hW _ _
  have hW0 := hW
  obtain ⟨p, q, hA, hV, rfl, _, _⟩ := hW
  rw [hvars] at hV
  obtain ⟨rfl, rfl⟩ := trodVars_none hV
  obtain ⟨avs, hpc, hvl⟩ := hlaw W base args ds p hval hA
  have hc := hpc.raw.2 (κ0 W) args.toList (κ0_conc W (by rw [hnil]; intro x hx; cases hx)) rfl hvl
  rw [Array.toArray_toList] at hc
  refine hc.mono ?_
  rintro e W' ⟨r, c, κ', rfl, ⟨rfl, _⟩, rfl, _, h2, h3⟩
  have h3 : c = .bool true := h3
  subst h3
  refine ⟨_, rfl, post_true hW0 (below_of h2) hres hbool hvars (hspec ds (by simpa using (trodAll_length hA).2)) hl fun t ht => ?_⟩
  have := List.all_eq_true.1 hr t ht
  simpa using this
end Go.Fl
set_option linter.unusedSectionVars false
set_option linter.unusedSimpArgs false
set_option linter.unusedVariables false
namespace Go.Fl
open Go.RowKit Go.ChangeShapes Go.WideShapes Go.Deep
def flatFs (r : TypeId → Nat → Bool) (P : Program) : List Field → Nat → Nat → Bool
  | [], pos, sz => pos == sz
  | f :: fs, pos, sz => f.offset == pos && r f.type (P.cellsOf f.type) && flatFs r P fs (pos + P.cellsOf f.type) sz
def flatR (P : Program) : Nat → TypeId → Nat → Bool
  | 0, _, _ => false
  | n + 1, t, sz => match P.underlying t with
    | some (.int .i64) => sz == 1
    | some (.struct fs) => flatFs (flatR P n) P fs.toList 0 sz
    | _ => false
theorem flatFs_at {P : Program} {n : Nat} : ∀ {fs : List Field} {pos sz p : Nat}, flatFs (flatR P n) P fs pos sz = true → pos ≤ p → p < sz → ∃ (i : Nat) (f : Field), fs[i]? = some f ∧ f.offset ≤ p ∧ p < f.offset + P.cellsOf f.type ∧ flatR P n f.type (P.cellsOf f.type) = true
  | [], pos, sz, p, h, h1, h2 => by unfold flatFs at h; simp at h; omega
  | f :: fs, pos, sz, p, h, h1, h2 => by
    unfold flatFs at h
    simp only [Bool.and_eq_true, beq_iff_eq] at h
    obtain ⟨⟨a, b⟩, c⟩ := h
    by_cases hp : p < pos + P.cellsOf f.type
    · exact ⟨0, f, rfl, by omega, by omega, b⟩
    · obtain ⟨i, g, q1, q2⟩ := flatFs_at c (by omega) h2
      exact ⟨i + 1, g, by simpa using q1, q2⟩
theorem wf_i64 {n : Int} (h : (Lit.int .i64 n).wf = true) : I64 n := by
  have e1 : IntKind.i64.min = -9223372036854775808 := by decide
  have e2 : IntKind.i64.max = 9223372036854775807 := by decide
  simp [Lit.wf, e1, e2] at h
  simp [I64]; omega
section
variable {H : Type} {enc : TypeId × Value → H} {P : Program} {W : World} {base : Nat} {spare : Nat → Bool} {held : Bool}
theorem read_flatR : ∀ (m : Nat) {e : TypeId} {sz n : Nat} {cs : List Value} {x : DataW H × List MemPlace}, flatR P m e sz = true → cs.length = sz → DataW.trod enc P W base spare held n e cs = some x → ∃ ns : List Int, ns.length = sz ∧ cs = ns.map (Value.int .i64) ∧ ∀ k, k ∈ ns → I64 k
  | 0, e, sz, n, cs, x, hf, _, _ => by simp [flatR] at hf
  | m + 1, e, sz, n, cs, x, hf, hl, h => by
    unfold flatR at hf
    split at hf
    · rename_i hi
      obtain ⟨k, hk, _, hw⟩ := DataW.trod_int hi h
      exact ⟨[k], by simpa [hk] using hl, by simpa using hk, fun q hq => by simp at hq; subst hq; exact wf_i64 hw⟩
    · rename_i fs hs
      obtain ⟨ys, n', _, _, hcl, hyl, hg⟩ := DataW.trod_struct hs h
      have key : ∀ j (hj : j < cs.length), ∃ k : Int, cs[j] = .int .i64 k ∧ I64 k := by
        intro j hj
        obtain ⟨i, f, hi, h1, h2, h3⟩ := flatFs_at hf (Nat.zero_le j) (by omega)
        have hfi : fs[i]? = some f := by simpa using hi
        have ht := hg i f hfi
        have hil : i < fs.size := by have := (Array.getElem?_eq_some_iff.1 hfi).1; omega
        rw [List.getElem?_eq_getElem (by omega)] at ht
        have hlen : f.offset + P.cellsOf f.type ≤ cs.length ∨ ¬ f.offset + P.cellsOf f.type ≤ cs.length := by omega
        by_cases hlen : f.offset + P.cellsOf f.type ≤ cs.length
        · obtain ⟨ns, g1, g2, g3⟩ := read_flatR m h3 (by rw [List.length_take, List.length_drop]; omega) ht
          have e1 : ((cs.drop f.offset).take (P.cellsOf f.type))[j - f.offset]? = some cs[j] := by
            rw [List.getElem?_take, if_pos (by omega), List.getElem?_drop, show f.offset + (j - f.offset) = j from by omega, List.getElem?_eq_getElem hj]
          rw [g2, List.getElem?_map] at e1
          obtain ⟨k, q1, q2⟩ := Option.map_eq_some_iff.1 e1
          exact ⟨k, q2.symm, g3 k (List.mem_of_getElem? q1)⟩
        · exfalso
          have key2 : ∀ (fs : List Field) (pos : Nat) (i : Nat), flatFs (flatR P m) P fs pos sz = true → fs[i]? = some f → f.offset + P.cellsOf f.type ≤ sz := by
            intro fs
            induction fs with
            | nil => intro pos i _ hi; simp at hi
            | cons g fs ih =>
              intro pos i hq hi
              unfold flatFs at hq
              simp only [Bool.and_eq_true, beq_iff_eq] at hq
              have mono : ∀ (fs : List Field) (pos : Nat), flatFs (flatR P m) P fs pos sz = true → pos ≤ sz := by
                intro fs
                induction fs with
                | nil => intro pos hq; unfold flatFs at hq; simp at hq; omega
                | cons g fs ih =>
                  intro pos hq
                  unfold flatFs at hq
                  simp only [Bool.and_eq_true, beq_iff_eq] at hq
                  have := ih _ hq.2
                  omega
              cases i with
              | zero => simp at hi; subst hi; have := mono _ _ hq.2; omega
              | succ i => exact ih _ i hq.2 (by simpa using hi)
          have := key2 _ _ i hf hi
          omega
      refine ⟨cs.map fun v => match v with | .int _ k => k | _ => 0, by simpa using hl, ?_, ?_⟩
      · apply List.ext_getElem
        · simp
        · intro j hj _
          obtain ⟨k, hk, _⟩ := key j hj
          simp [hk]
      · intro k hk
        obtain ⟨v, hv, rfl⟩ := List.mem_map.1 hk
        obtain ⟨j, hj, rfl⟩ := List.mem_iff_getElem.1 hv
        obtain ⟨k, q1, q2⟩ := key j hj
        rw [q1]; exact q2
    · cases hf
def sliceR (P : Program) (t : TypeId) (sz : Nat) : Bool := match P.underlying t with | some (.slice e) => P.cellsOf e == sz && flatR P 5 e sz | _ => false
def isSlice (P : Program) (t : TypeId) : Bool := match P.underlying t with | some (.slice _) => true | _ => false
theorem sliceR_is {t : TypeId} {sz : Nat} (h : sliceR P t sz = true) : isSlice P t = true := by
  unfold sliceR at h; unfold isSlice
  split at h
  · rfl
  · cases h
theorem lift_sliceR {t : TypeId} {sz fuel : Nat} {a : Option Addr} {len cap : Nat} {x : DataW H × List MemPlace} (hsp : ∀ ad, a = some ad → ad.spot = none) (ht : sliceR P t sz = true) (h : DataW.trod enc P W base spare held fuel t [.slice a len cap] = some x) :
    ∃ ess : List (List Int), (∀ e, e ∈ ess → e.length = sz ∧ ∀ k, k ∈ e → I64 k) ∧ PV (S0 W) W (.lst false sz (ess.map fun e => e.map iv)) (.slice a len cap) := by
  unfold sliceR at ht
  split at ht
  · rename_i e hs
    simp only [Bool.and_eq_true, beq_iff_eq] at ht
    obtain ⟨hC, hf⟩ := ht
    rcases open_slice hs h with ⟨hcs, _⟩ | ⟨a', len', cap', m, n, D, Pl, hcs, hb, hl, hm, hmm, hx, hi⟩
    · simp only [List.cons.injEq, Value.slice.injEq, and_true] at hcs
      obtain ⟨rfl, rfl, rfl⟩ := hcs
      exact ⟨[], by simp, none, 0, rfl, by simp, by simp [maxLen], by simp, by simp, by simp, by simp⟩
    · simp only [List.cons.injEq, Value.slice.injEq, and_true] at hcs
      obtain ⟨rfl, rfl, rfl⟩ := hcs
      have hlm : len ≤ m := by rw [hmm]; split <;> omega
      have hspa := hsp _ rfl
      obtain ⟨g, off, sp⟩ := a'
      simp only at hspa
      subst hspa
      have key : ∀ i, i < len → ∃ ns : List Int, (ns.length = sz ∧ ∀ k, k ∈ ns → I64 k) ∧ ∀ (j : Nat) (k : Int), ns[j]? = some k → W.cell? ⟨g, off + i * sz + j, none⟩ = some (.int .i64 k) := by
        intro i hil
        obtain ⟨cs', hc, htr⟩ := hi i (by omega)
        obtain ⟨_, hcl, hat⟩ := World.cells?_some hc
        rw [hC] at hcl hat
        obtain ⟨ns, h1, h2, h3⟩ := read_flatR 5 hf hcl htr
        refine ⟨ns, ⟨h1, h3⟩, fun j k hj => ?_⟩
        have hjl : j < sz := by have := (List.getElem?_eq_some_iff.1 hj).1; omega
        have := hat j hjl
        rw [h2, List.getElem?_map, hj, add_add] at this
        unfold Addr.add at this
        split at this
        · rename_i h0
          rw [show off + i * sz + j = off from by omega]; exact this
        · rw [show off + i * sz + j = off + (i * sz + j) from by omega]; exact this
      classical
      refine ⟨(List.range len).map fun i => if hh : i < len then Classical.choose (key i hh) else [], fun e he => ?_, some ⟨g, off, none⟩, cap, by simp, by simpa using hl, hm, by simp, fun ad ha => ?_, by simp, fun e he => ?_⟩
      · obtain ⟨i, hi2, rfl⟩ := List.mem_map.1 he
        have hil := List.mem_range.1 hi2
        rw [dif_pos hil]
        exact (Classical.choose_spec (key i hil)).1
      · cases ha
        refine ⟨fun _ => rfl, PVE.of_get _ _ fun i e he => ?_⟩
        rw [List.getElem?_map, List.getElem?_map] at he
        have hil : i < len := by
          rcases Nat.lt_or_ge i len with h | h
          · exact h
          · rw [List.getElem?_eq_none (by simpa using h)] at he; cases he
        rw [List.getElem?_range hil] at he
        simp only [Option.map_some, dif_pos hil, Option.some.injEq] at he
        subst he
        exact PVC.of_ints _ _ (Classical.choose_spec (key i hil)).2
      · obtain ⟨e0, he0, rfl⟩ := List.mem_map.1 he
        obtain ⟨i, hi2, rfl⟩ := List.mem_map.1 he0
        have hil := List.mem_range.1 hi2
        rw [dif_pos hil, List.length_map]
        exact (Classical.choose_spec (key i hil)).1.1
  · cases ht
end
end Go.Fl
set_option linter.unusedSimpArgs false
set_option linter.unusedVariables false
namespace Go.Fl
open Go.RowKit
mutual
def loV : AV → AV
  | .lst _ sz es => .lst false sz (loE es)
  | .agg cs => .agg (loL cs)
  | .tup cs => .tup (loL cs)
  | .pp cs => .pp (loL cs)
  | .fn f cs => .fn f (loL cs)
  | .bf f cs => .bf f (loL cs)
  | .any => .any
  | .int k n => .int k n
  | .bool b => .bool b
  | .nilS => .nilS
  | .nilP => .nilP
  | .nilF => .nilF
  | .row b n => .row b n
  | .lp b o => .lp b o
  | .rp b n i o => .rp b n i o
  | .rg b n g => .rg b n g
  | .yld l => .yld l
  | .mp l => .mp l
  | .pm a b c d => .pm a b c d
def loL : List AV → List AV
  | [] => []
  | v :: vs => loV v :: loL vs
def loE : List (List AV) → List (List AV)
  | [] => []
  | e :: es => loL e :: loE es
end
theorem loL_length : ∀ vs : List AV, (loL vs).length = vs.length
  | [] => rfl
  | _ :: vs => by simp [loL, loL_length vs]
theorem loE_length : ∀ es : List (List AV), (loE es).length = es.length
  | [] => rfl
  | _ :: es => by simp [loE, loE_length es]
theorem loE_mem : ∀ {es : List (List AV)} {sz : Nat}, (∀ e, e ∈ es → e.length = sz) → ∀ e, e ∈ loE es → e.length = sz
  | [], _, _, e, h => by simp [loE] at h
  | x :: es, sz, hh, e, h => by
    simp only [loE, List.mem_cons] at h
    rcases h with rfl | h
    · rw [loL_length]; exact hh x (by simp)
    · exact loE_mem (fun y hy => hh y (by simp [hy])) e h
section
variable {S : Nat → Nat → Prop} {w : World}
mutual
theorem PV.lo : ∀ (v : AV) (c : Value), PV S w v c → PV S w (loV v) c
  | .any, _, _ => trivial
  | .int _ _, _, hv => hv
  | .bool _, _, hv => hv
  | .nilS, _, hv => hv
  | .nilP, _, hv => hv
  | .nilF, _, hv => hv
  | .agg cs, _, ⟨a, e, hl⟩ => ⟨a, e, PVL.lo cs _ hl⟩
  | .tup cs, _, ⟨a, e, hl⟩ => ⟨a, e, PVL.lo cs _ hl⟩
  | .lst f sz es, _, ⟨A, cap, e, h1, h2, h3, h4, h5, h6⟩ => ⟨A, cap, by rw [loE_length]; exact e, by rw [loE_length]; exact h1, h2, (fun h => by cases h), fun ad ha => ⟨(h4 ad ha).1, PVE.lo sz es ad (h4 ad ha).2⟩, h5, loE_mem h6⟩
  | .row _ _, _, hv => hv
  | .pp cs, _, ⟨ad, e, h1, h2⟩ => ⟨ad, e, h1, PVC.lo cs ad h2⟩
  | .lp _ _, _, hv => hv
  | .rp _ _ _ _, _, hv => hv
  | .rg _ _ _, _, hv => hv
  | .fn _ cs, _, ⟨a, e, hl⟩ => ⟨a, e, PVL.lo cs _ hl⟩
  | .bf _ cs, _, ⟨a, e, hl⟩ => ⟨a, e, PVL.lo cs _ hl⟩
  | .yld _, _, hv => hv
  | .mp _, _, hv => hv
  | .pm _ _ _ _, _, hv => hv
theorem PVL.lo : ∀ (vs : List AV) (l : List Value), PVL S w vs l → PVL S w (loL vs) l
  | [], _, hv => hv
  | v :: vs, _, ⟨c, cs, e, h1, h2⟩ => ⟨c, cs, e, PV.lo v c h1, PVL.lo vs cs h2⟩
theorem PVC.lo : ∀ (vs : List AV) (ad : Addr), PVC S w vs ad → PVC S w (loL vs) ad
  | [], _, _ => trivial
  | v :: vs, ad, ⟨⟨c, h1, h2, h3, h4⟩, h5⟩ => ⟨⟨c, h1, h2, h3, PV.lo v c h4⟩, PVC.lo vs _ h5⟩
theorem PVE.lo (sz : Nat) : ∀ (es : List (List AV)) (ad : Addr), PVE S w sz es ad → PVE S w sz (loE es) ad
  | [], _, _ => trivial
  | e :: es, ad, ⟨h1, h2⟩ => ⟨PVC.lo e ad h1, PVE.lo sz es _ h2⟩
end
end
theorem VL.lo {κ : Cx} {vs : List AV} {l : List Value} (hp : AV.pureL vs = true) (h : VL κ vs l) : VL κ (loL vs) l :=
  VL.of_pvl _ _ (PVL.lo _ _ (PVL.of_v _ _ hp h))
theorem HCH.lo {P : Program} {g : FuncId} {args : List AV} {H : Heap} {Q : AV → Heap → Prop} (h : HCH P g (loL args) H Q) (hp : AV.pureL args = true) : HCH P g args H Q :=
  ⟨h.1, fun κ cargs hc hH hv => h.2 κ cargs hc hH (hv.lo hp)⟩
theorem PC.lo {P : Program} {g : FuncId} {args : List AV} {v : AV} (h : PC P g (loL args) v) (hp : AV.pureL args = true) : PC P g args v := PC.mk (HCH.lo h.raw hp)
end Go.Fl
set_option linter.unusedSectionVars false
set_option linter.unusedSimpArgs false
set_option linter.unusedVariables false
namespace Go.Fl
open Go.RowKit
section
variable {P : Program} {nt m : Nat} {R : Exit → St → Prop} {k : List It} {st : St}
theorem VC.rangeXB {g : Operand} {ps : Array Tmp} {assign body : Code} {gf : Nat} {fs : List AV} (hg : evA st.env g = .bf gf fs) (hm : m ≤ st.H.length)
    (h : ∀ l, HCH P gf (fs ++ [.yld l]) (st.H ++ [.loop l nt ps assign body st.env]) fun r H' =>
      ∃ H2 x rest, H' = H2 ++ x :: rest ∧ H2.length = st.H.length ∧ belowH H2.length H2 ∧ belowE H2.length st.env ∧ ((x = .loop l nt ps assign body st.env ∧ VC P nt m R k ⟨st.env, H2⟩) ∨ (x = .lpx l ∧ R .ret ⟨st.env, H2⟩))) :
    VC P nt m R (.code (.rangeFunc g ps assign body) :: k) st := by
  intro F E a w hF hE hgd
  obtain ⟨κ, rfl, h2, h3, h4, h5, h6, h7, h8⟩ := hgd.rho
  simp only [post]
  refine wpIn_rangeFunc ?_
  intro fn _
  obtain ⟨l, mark, w1, q1, q2, q3, q4, q5, q6, q7, ⟨dfr, q8⟩, q9⟩ := enter_loopP (P := P) (a := a) (ps := ps) (assign := assign) (body := body) hF h4 fn
  have hfv := h8.ev g
  rw [hg] at hfv
  obtain ⟨cc, e1, hl⟩ := hfv
  obtain ⟨c1, s1⟩ := h3.push (w' := w1) { blk := l, cap := 0, isNil := false } (.loop l nt ps assign body st.env) q2 q3 q4 (by omega) q7 (fun _ => ⟨q5, q6⟩) (fun hk => by
    simp only [BlkOk, upd_same]
    refine ⟨trivial, trivial, fn, a.tmps, dfr, q8, h5, fun t => V.mono hk _ _ (h6 t), fun o hS => ?_⟩
    have := h3.swf l o hS; omega)
  have hcall := (h l).2 { S := κ.S, w := w1, ρ := upd κ.ρ κ.H.length { blk := l, cap := 0, isNil := false }, H := κ.H ++ [.loop l nt ps assign body st.env] } (cc.toList ++ [.func (.yield l) #[] #[]]) c1 (by simp only [h2]) ((VL.mono s1.toKeep _ _ hl).append (show VL _ [.yld l] [.func (.yield l) #[] #[]] from ⟨.func (.yield l) #[] #[], [], rfl, rfl, rfl⟩))
  refine ⟨l, mark, w1, { target := .fn (.func gf) #[], args := cc ++ #[.func (.yield l) #[] #[]] }, w1, gf, cc ++ #[.func (.yield l) #[] #[]], w1, q1, ?_, ?_, ?_, ?_, ?_⟩
  · simp only [resolve, e1]
    simp [go_sem]
  · intro f' hf'; exact hF.1.fn _
  · simp [invoke, go_sem, (h l).1]
  · intro hd; rw [hF.1.depth] at hd; cases hd
  · have hargs : (cc.toList ++ [.func (.yield l) #[] #[]] : List Value).toArray = cc ++ #[.func (.yield l) #[] #[]] := by apply Array.toList_inj.1; simp
    rw [hargs] at hcall
    refine hF.1.calls (hcall.mono ?_)
    rintro e w' ⟨r, c, κ', rfl, ⟨H2, x, rest, hH, hlen, hbH, hbE, hv⟩, rfl, k1, k2, _⟩
    have hn : H2.length < κ'.H.length := by rw [hH]; simp
    have htk : κ'.H.take H2.length = H2 := by rw [hH]; simp
    have hlb : κ'.H[H2.length]? = some x := by rw [hH]; simp
    have hbx : (κ'.ρ H2.length).isNil = false ∧ (κ'.ρ H2.length).blk = l ∧ ∃ rec : Loop, κ'.w.heap[l]? = some (.loop rec) ∧ rec.state ≠ .busy ∧ ((rec.pending = none ∧ VC P nt m R k ⟨st.env, H2⟩) ∨ (rec.pending = some .ret ∧ R .ret ⟨st.env, H2⟩)) := by
      have hok := k1.blk _ _ hlb
      rcases hv with ⟨rfl, hv⟩ | ⟨rfl, hv⟩
      · obtain ⟨b1, b2, fn', tmps', dfr', b3, _⟩ := hok
        exact ⟨b1, b2, _, b3, by simp, .inl ⟨rfl, hv⟩⟩
      · obtain ⟨b1, b2, ⟨rec, b3, b4, b5⟩, _⟩ := hok
        exact ⟨b1, b2, rec, b3, b4, .inr ⟨b5, hv⟩⟩
    obtain ⟨b1, b2, rec, b3, b4, hv⟩ := hbx
    refine ⟨_, _, run_endLoop b3 b4, ?_⟩
    have s2 := h4.trans (s1.trans k2)
    have hct : Conc { κ' with H := κ'.H.take H2.length } := k1.trunc (by rw [htk]; exact hbH)
    have hno : ¬ Owned { κ' with H := κ'.H.take H2.length } l := fun ⟨b', r1, r2, r3⟩ => by
      have r1 : b' < (κ'.H.take H2.length).length := r1
      rw [List.length_take] at r1
      have := k1.inj b' H2.length (by omega) hn r2 b1 (by rw [b2]; exact r3)
      omega
    obtain ⟨d1, d2, d3⟩ := hct.putObj (o' := .loop { rec with state := .exhausted }) b3 rfl rfl hno
    have hEm : E.H.length ≤ H2.length := by omega
    have hsz : E.w.heap.size ≤ l := Nat.le_trans h4.size q5
    have hgood : Good nt E ⟨st.env, H2⟩ { a with defers := mark ++ a.defers } (κ'.w.putObj l (.loop { rec with state := .exhausted })) := ?_
    · rcases hv with ⟨e, hv⟩ | ⟨e, hv⟩
      · rw [e] at hgood ⊢; exact hv F E _ _ hF hE hgood
      · rw [e] at hgood ⊢; exact wpIn_ret (post_ret ⟨_, hv, hgood⟩)
    refine ⟨_, rfl, htk, d1, d2 E hsz (s2.trunc hEm), h5, fun t => ?_, ?_, ?_⟩
    · exact V.mono d3 _ _ (V.trunc _ _ (belowE_get t hbE) (V.mono (s1.trans k2).toKeep _ _ (h6 t)))
    · rcases q9 with rfl | ⟨D, rfl, q10, _⟩
      · exact h7.1
      · refine List.nodup_cons.2 ⟨fun hmem => ?_, h7.1⟩
        obtain ⟨D', z1, z2, _⟩ := h7.2 _ hmem
        have := (Array.getElem?_eq_some_iff.1 z2).1
        have : D = D' := by simpa using z1
        omega
    · have old : ∀ D, κ'.w.heap[D]? = some (.deferred (some [])) → E.w.heap.size ≤ D → ¬ Owned κ' D → D ≠ l → ∃ D', ({ target := .collected D, args := #[] } : Deferred) = { target := .collected D', args := #[] } ∧ (κ'.w.putObj l (.loop { rec with state := .exhausted })).heap[D']? = some (.deferred (some [])) ∧ E.w.heap.size ≤ D' ∧ ¬ Owned { κ' with H := κ'.H.take H2.length, w := κ'.w.putObj l (.loop { rec with state := .exhausted }) } D' := fun D z1 z2 z3 z4 => by
        refine ⟨D, rfl, by rw [World.putObj_heap_other z4]; exact z1, z2, fun ⟨b', r1, r2, r3⟩ => z3 ⟨b', ?_, r2, r3⟩⟩
        have r1 : b' < (κ'.H.take H2.length).length := r1
        rw [List.length_take] at r1
        omega
      intro d hd
      rcases List.mem_append.1 hd with hd | hd
      · rcases q9 with rfl | ⟨D, rfl, q10, q11, q12⟩
        · cases hd
        · have : d = { target := .collected D, args := #[] } := by simpa using hd
          subst this
          have hD1 : ¬ Owned { S := κ.S, w := w1, ρ := upd κ.ρ κ.H.length { blk := l, cap := 0, isNil := false }, H := κ.H ++ [.loop l nt ps assign body st.env] } D := fun ⟨b', r1, r2, r3⟩ => by
            have r1 : b' < (κ.H ++ [Blk.loop l nt ps assign body st.env]).length := r1
            simp only [List.length_append, List.length_cons, List.length_nil] at r1
            by_cases e : b' = κ.H.length
            · subst e; simp only [upd_same] at r3; omega
            · simp only [upd_other κ.ρ _ e] at r2 r3
              have := h3.lt b' (by omega) r2; omega
          have hDlt := (Array.getElem?_eq_some_iff.1 q12).1
          refine old D ?_ (Nat.le_trans h4.size q10) (fun ho => ?_) q11
          · rw [k2.frame D hDlt hD1]; exact q12
          · rcases k2.own D ho with z | z
            · exact hD1 z
            · have z : w1.heap.size ≤ D := z
              omega
      · have hms := h7.2.step (s1.trans k2)
        obtain ⟨D, z1, z2, z3, z4⟩ := hms d hd
        subst z1
        obtain ⟨D', y1, y2, _⟩ := h7.2 _ hd
        have hDD : D = D' := by simpa using y1
        have := (Array.getElem?_eq_some_iff.1 y2).1
        exact old D z2 z3 z4 (by omega)
end
section
variable {P : Program} {nt m : Nat} {R : Exit → St → Prop} {k : List Iv} {st : St} {dst : Option Nat} {rest : List COp} {env : Env} {H H' : Heap}
theorem CV.rangeXB {g : Operand} {ps : Array Tmp} {assign body : Code} {gf : Nat} {fs : List AV} (hg : evA st.env g = .bf gf fs) (hm : m ≤ st.H.length)
    (h : ∀ l, HCH P gf (fs ++ [.yld l]) (st.H ++ [.loop l nt ps assign body st.env]) fun r H' => ∃ H2 x rest, H' = H2 ++ x :: rest ∧ H2.length = st.H.length ∧ belowH H2.length H2 ∧ belowE H2.length st.env ∧ ((x = .loop l nt ps assign body st.env ∧ vc P nt m R k ⟨st.env, H2⟩) ∨ (x = .lpx l ∧ R .ret ⟨st.env, H2⟩))) :
    CV P nt m R (.code (.rangeFunc g ps assign body) :: k) st := by
  refine CV.mk fun k' hr => ?_
  obtain ⟨r, rfl, hr'⟩ := hr
  refine VC.rangeXB hg hm fun l => (h l).mono ?_
  rintro r0 H' ⟨H2, x, rest, e, e1, e2, e3, hv⟩
  exact ⟨H2, x, rest, e, e1, e2, e3, hv.imp (fun q => ⟨q.1, (CV.run q.2).of _ hr'⟩) id⟩
theorem CV.rangePB {g : Operand} {ps : Array Tmp} {assign body : Code} {gf : Nat} {fs : List AV} (hg : evA st.env g = .bf gf fs) (hm : m ≤ st.H.length) (H2 : Heap) (hlen : H2.length = st.H.length) (hbH : belowH H2.length H2) (hbE : belowE H2.length st.env)
    (h : ∀ l, HCH P gf (fs ++ [.yld l]) (st.H ++ [.loop l nt ps assign body st.env]) fun r H' => ∃ rest, H' = H2 ++ .loop l nt ps assign body st.env :: rest) (hv : vc P nt m R k ⟨st.env, H2⟩) :
    CV P nt m R (.code (.rangeFunc g ps assign body) :: k) st :=
  CV.rangeXB hg hm fun l => (h l).mono fun _ _ ⟨rest, e⟩ => ⟨H2, _, rest, e, hlen, hbH, hbE, .inl ⟨rfl, hv⟩⟩
end
end Go.Fl
