/- A framework of general lemmas over the model (an abstract machine); no statement of the seat is proved here, and none has a condition. -/
import Derived.Test.YtoadkchhimojlaaGreatDoorFlA
import Derived.WalkSpells
import Derived.Carry
set_option linter.unusedSectionVars false
set_option linter.unusedSimpArgs false
set_option linter.unusedVariables false
set_option maxRecDepth 100000
open List(cons_append flatten_cons getElem?_map getElem?_take length_append length_cons length_map length_take map_congr_left map_cons)
namespace Go.Fl
open Go.RowKit
section
variable {P:Program} {κ:Cx}
theorem OpOk.pure(hc:Conc κ){s:Sem Next}{v:AV}{c:Value}(hr:s.run P κ.w= .ok (.value c) κ.w)(hv:V κ v c):OpOk P κ s v κ.H:=
 ⟨κ,c,.inl hr,hc,.refl κ,rfl,hv⟩
theorem evOp_sound (hc : Conc κ) {env : Env} {ρv : Operand → Value} (hρ : Rho κ env ρv) (o : Oper) {p : Prop} {v : AV} {H' : Heap} (h : evOp P env κ.H o.op = .ok p v H') (hp : p) : OpOk P κ (execOp ρv o) v H' := by
  unfold execOp
  cases ho : o.op with
  | move x =>
    rw [ho] at h; simp only [evOp, Res.ok.injEq] at h; obtain ⟨rfl, rfl, rfl⟩ := h
    exact .pure hc (by simp) (hρ.ev x)
  | assign x =>
    rw [ho] at h; simp only [evOp, Res.ok.injEq] at h; obtain ⟨rfl, rfl, rfl⟩ := h
    exact .pure hc (by simp) (hρ.ev x)
  | pick c a b =>
    rw [ho] at h; simp only [evOp] at h
    split at h
    · rename_i t ht
      simp only [Res.ok.injEq] at h; obtain ⟨rfl, rfl, rfl⟩ := h
      have hcv := hρ.ev c
      rw [ht] at hcv
      have hcv : ρv c = .bool t := hcv
      refine .pure hc (c := if t then ρv a else ρv b) (by simp [hcv, asBool]) ?_
      cases t
      · exact hρ.ev b
      · exact hρ.ev a
    · cases h
  | alloc ty =>
    rw [ho] at h; simp only [evOp] at h
    split at h
    · rename_i cs hz
      split at h
      · rename_i ha
        simp only [Res.ok.injEq] at h; obtain ⟨rfl, rfl, rfl⟩ := h
        exact (alloc_ok hc hz ha).op
      · cases h
    · cases h
  | box ty x =>
    rw [ho] at h; simp only [evOp] at h
    split at h
    · rename_i cs hcs
      simp only [Res.ok.injEq] at h; obtain ⟨rfl, rfl, rfl⟩ := h
      exact (box_ok hc (hρ.ev x) hcs).op
    · cases h
  | load t x =>
    rw [ho] at h; simp only [evOp] at h
    exact (load_ok hc (hρ.ev x) h hp).op
  | store t a x =>
    rw [ho] at h; simp only [evOp] at h
    obtain ⟨κ', r1, r2, r3, r4, rfl⟩ := st_ok (P := P) hc (hρ.ev a) (hρ.ev x) h hp
    exact ⟨κ', undef, .inr ⟨by simp [Sem.run_bind, r1, Result.andThen], rfl⟩, r2, r3, r4, trivial⟩
  | nilCheck x =>
    rw [ho] at h; simp only [evOp] at h
    have hx := hρ.ev x
    split at h
    · rename_i cs hcs
      simp only [Res.ok.injEq] at h; obtain ⟨rfl, rfl, rfl⟩ := h
      rw [hcs] at hx
      obtain ⟨ad, e, h1⟩ := id hx
      exact .pure hc (c := ρv x) (by simp [e]) hx
    · rename_i b off hcs
      simp only [Res.ok.injEq] at h; obtain ⟨rfl, rfl, rfl⟩ := h
      rw [hcs] at hx
      obtain ⟨ty, cs, sl, h1, e⟩ := id hx
      exact .pure hc (c := ρv x) (by simp [e]) hx
    · rename_i b n i off hcs
      simp only [Res.ok.injEq] at h; obtain ⟨rfl, rfl, rfl⟩ := h
      rw [hcs] at hx
      obtain ⟨⟨A, e⟩, h1⟩ := id hx
      exact .pure hc (c := ρv x) (by simp [e]) hx
    · rename_i f caps hcs
      simp only [Res.ok.injEq] at h; obtain ⟨rfl, rfl, rfl⟩ := h
      rw [hcs] at hx
      obtain ⟨a, e, h1⟩ := id hx
      exact .pure hc (c := ρv x) (by simp [e]) hx
    · rename_i f caps hcs
      simp only [Res.ok.injEq] at h; obtain ⟨rfl, rfl, rfl⟩ := h
      rw [hcs] at hx
      obtain ⟨a, e, h1⟩ := id hx
      exact .pure hc (c := ρv x) (by simp [e]) hx
    · cases h
  | binOp op t x y yt =>
    rw [ho] at h; simp only [evOp] at h
    split at h
    · rename_i q u hb
      simp only [Res.ok.injEq] at h; obtain ⟨rfl, rfl, rfl⟩ := h
      exact (binA_ok hc (hρ.ev x) (hρ.ev y) hb hp x y).op
    · exact (eqY_ok hc (hρ.ev x) (hρ.ev y) h).op
  | unOp op t x =>
    rw [ho] at h
    have hx := hρ.ev x
    cases op <;> simp only [evOp] at h <;> first | (cases h; done) | skip
    all_goals
      split at h
      · rename_i n hn
        simp only [Res.ok.injEq] at h; obtain ⟨rfl, rfl, rfl⟩ := h
        rw [hn] at hx
        have hx : ρv x = _ := hx
        first
        | exact .pure hc (c := .bool (!n)) (by simp [hx, Op.unary]) rfl
        | exact .pure hc (c := .int .i64 (-n)) (by simp [hx, Op.unary, Op.intArith, wrap_i64 hp]) rfl
      · first
        | (cases h; done)
        | (rename_i n hn
           simp only [Res.ok.injEq] at h; obtain ⟨rfl, rfl, rfl⟩ := h
           rw [hn] at hx
           have hx : ρv x = _ := hx
           exact .pure hc (c := .int .u64 ((-n) % 18446744073709551616)) (by simp [hx, Op.unary, Op.intArith, wrap_u64m]) rfl)
      try (cases h; done)
  | convert s t x =>
    rw [ho] at h; simp only [evOp] at h
    have hx := hρ.ev x
    split at h
    · rename_i ks k n h1 h2 h3
      simp only [Res.ok.injEq] at h; obtain ⟨rfl, rfl, rfl⟩ := h
      rw [h3] at hx
      have hx : ρv x = _ := hx
      have q : ValOk P κ (convert s t (ρv x)) (.int .i64 n) κ.H := .same hc (c := .int .i64 n) (by simp [convert_run h1 h2, hx, Conv.intToInt, wrap_i64 hp]) rfl
      exact q.op
    · rename_i ks k n h1 h2 h3
      simp only [Res.ok.injEq] at h; obtain ⟨rfl, rfl, rfl⟩ := h
      rw [h3] at hx
      have hx : ρv x = _ := hx
      have q : ValOk P κ (convert s t (ρv x)) (.int .u64 n) κ.H := .same hc (c := .int .u64 n) (by simp [convert_run h1 h2, hx, Conv.intToInt, wrap_u64 hp]) rfl
      exact q.op
    · cases h
  | fieldAddr s x f =>
    rw [ho] at h; simp only [evOp] at h
    have hx := hρ.ev x
    split at h
    · rename_i o' t cs hf hcs
      simp only [Res.ok.injEq] at h; obtain ⟨rfl, rfl, rfl⟩ := h
      rw [hcs] at hx
      exact (fieldAddr_ok hc hf hx rfl).op
    · rename_i o' t b off hf hcs
      simp only [Res.ok.injEq] at h; obtain ⟨rfl, rfl, rfl⟩ := h
      rw [hcs] at hx
      exact (fieldAddr_ok hc hf hx rfl).op
    · rename_i o' t b n i off hf hcs
      simp only [Res.ok.injEq] at h; obtain ⟨rfl, rfl, rfl⟩ := h
      rw [hcs] at hx
      exact (fieldAddr_ok hc hf hx rfl).op
    · cases h
  | field s x f =>
    rw [ho] at h; simp only [evOp] at h
    have hx := hρ.ev x
    split at h
    · rename_i o' t cs hf hcs
      obtain ⟨h1, _, rfl⟩ := ofO_ok h
      rw [hcs] at hx
      exact (field_ok hc hf hx h1).op
    · cases h
  | indexAddr t x i =>
    rw [ho] at h; simp only [evOp] at h
    split at h
    · rename_i j hj
      obtain ⟨ki, hki⟩ := idxI_ok hj (hρ.ev i)
      exact (idx_ok hc (hρ.ev x) hki h hp).op
    · cases h
  | index t x i =>
    rw [ho] at h; simp only [evOp] at h
    have hx := hρ.ev x
    split at h
    · rename_i n e sz j cs ha hj hcs
      obtain ⟨ki, hki⟩ := idxI_ok hj (hρ.ev i)
      rw [hcs] at hx
      split at h
      · rename_i v' hv'
        simp only [Res.ok.injEq] at h; obtain ⟨rfl, rfl, rfl⟩ := h
        exact (index_ok hc ha hx hki hp.1 hp.2 hv').op
      · cases h
    · exact (idxS_ok hc hx (fun n hn => idxI_ok hn (hρ.ev i)) h hp).op
    · cases h
  | slice t x lo hi mx =>
    rw [ho] at h; simp only [evOp] at h
    split at h
    · rename_i e sz l hh m he hl hh' hm
      exact (sli_ok hc he hρ hl hh' hm (hρ.ev x) h hp).op
    · split at h
      · rename_i n e cs ha hx
        simp only [Res.ok.injEq] at h; obtain ⟨rfl, rfl, rfl⟩ := h
        have hx' := hρ.ev x
        rw [hx] at hx'
        exact (sliArr_ok hc ha hx' hp.1 hp.2.1 hp.2.2).op
      · exact (strS_ok hc hρ (hρ.ev x) h hp).op
    · cases h
  | build t parts =>
    rw [ho] at h
    exact (build_ok hc hρ h).op
  | buildSlice t len parts =>
    rw [ho] at h
    exact (buildSlice_ok hc hρ h).op
  | makeFunc fn first caps =>
    rw [ho] at h
    cases fn <;> simp only [evOp] at h <;> first | (cases h; done) | skip
    rename_i f
    split at h
    · rename_i hs
      simp only [Res.ok.injEq] at h; obtain ⟨rfl, rfl, rfl⟩ := h
      have hf : first = #[] := Array.eq_empty_of_size_eq_zero hs
      subst hf
      refine .pure hc (c := .func (.func f) #[] (caps.map ρv)) (by simp [Instr.makeFunc]) ⟨_, rfl, ?_⟩
      rw [Array.toList_map]
      generalize caps.toList = l
      induction l with
      | nil => rfl
      | cons x l ih => exact ⟨_, _, rfl, hρ.ev x, ih⟩
    · split at h
      · rename_i hs
        simp only [Res.ok.injEq] at h; obtain ⟨rfl, rfl, rfl⟩ := h
        have hf : caps = #[] := Array.eq_empty_of_size_eq_zero hs
        subst hf
        refine .pure hc (c := .func (.func f) (first.map ρv) #[]) (by simp [Instr.makeFunc]) ⟨_, rfl, ?_⟩
        rw [Array.toList_map]
        generalize first.toList = l
        induction l with
        | nil => rfl
        | cons x l ih => exact ⟨_, _, rfl, hρ.ev x, ih⟩
      · cases h
  | extract x i =>
    rw [ho] at h; simp only [evOp] at h
    have hx := hρ.ev x
    split at h
    · rename_i vs hv
      obtain ⟨h1, _, rfl⟩ := ofO_ok h
      rw [hv] at hx
      obtain ⟨a, e, hl⟩ := hx
      obtain ⟨c, h2, h3⟩ := hl.get i v h1
      simp only [Array.getElem?_toList] at h2
      exact .pure hc (c := c) (by simp [e, Instr.extract, h2]) h3
    · cases h
  | makeSlice t x y =>
    rw [ho] at h
    exact (make_ok hc hρ h hp).op
  | call c =>
    rw [ho] at h
    obtain ⟨callee, args, argTypes⟩ := c
    cases callee with
    | value f => simp only [evOp] at h; cases h
    | invoke r m => simp only [evOp] at h; cases h
    | builtin b =>
      cases b <;> simp only [evOp] at h <;> first | (cases h; done) | skip
      case append =>
        split at h
        · rename_i s x t t' ha ht
          obtain rfl : args = #[s, x] := by cases args; simpa using ha
          obtain rfl : argTypes = #[t, t'] := by cases argTypes; simpa using ht
          split at h
          · rename_i htt
            subst htt
            obtain ⟨κ', c, r1, r2, r3, r4, r5⟩ := app_ok (P := P) (ty := o.type) hc (hρ.ev s) (hρ.ev x) h hp
            exact ⟨κ', c, .inl (by simp [resolve, invoke, builtin, r1]), r2, r3, r4, r5⟩
          · cases h
        · cases h
      case len =>
        split at h
        · rename_i x t ha ht
          obtain rfl : args = #[x] := by cases args; simpa using ha
          obtain rfl : argTypes = #[t] := by cases argTypes; simpa using ht
          split at h
          · rename_i e n he hn
            simp only [Res.ok.injEq] at h; obtain ⟨rfl, rfl, rfl⟩ := h
            obtain ⟨A, k, cap, e1, rfl⟩ := lenA_ok hn (hρ.ev x)
            obtain ⟨hu, _⟩ := elT_ok he
            exact .pure hc (c := .int .i64 k) (by simp [resolve, invoke, builtin, e1, Builtin.len_, run_underlying hu, goInt]) rfl
          · obtain ⟨κ', c, r1, r2, r3, r4, r5⟩ := lenS_ok (P := P) (ty := o.type) hc (hρ.ev x) h
            exact ⟨κ', c, .inl (by simp [resolve, invoke, builtin, r1]), r2, r3, r4, r5⟩
        · cases h
      case max =>
        split at h
        · rename_i x y ha
          obtain rfl : args = #[x, y] := by cases args; simpa using ha
          split at h
          · rename_i m n hm hn
            simp only [Res.ok.injEq] at h; obtain ⟨rfl, rfl, rfl⟩ := h
            have e1 := intA_ok hm (hρ.ev x)
            have e2 := intA_ok hn (hρ.ev y)
            exact .pure hc (c := .int .i64 (max m n)) (by
              have : (if m < n then n else m) = max m n := by omega
              simp [resolve, invoke, builtin, e1, e2, Builtin.max_, Builtin.max2, this]) rfl
          · cases h
        · cases h
      case min =>
        split at h
        · rename_i x y ha
          obtain rfl : args = #[x, y] := by cases args; simpa using ha
          split at h
          · rename_i m n hm hn
            simp only [Res.ok.injEq] at h; obtain ⟨rfl, rfl, rfl⟩ := h
            have e1 := intA_ok hm (hρ.ev x)
            have e2 := intA_ok hn (hρ.ev y)
            exact .pure hc (c := .int .i64 (min m n)) (by
              have : (if n < m then n else m) = min m n := by omega
              simp [resolve, invoke, builtin, e1, e2, Builtin.min_, Builtin.min2, this]) rfl
          · cases h
        · cases h
  | makeInterface t x =>
    rw [ho] at h; simp only [evOp] at h
    split at h
    · rename_i ht
      simp only [Res.ok.injEq] at h; obtain ⟨rfl, rfl, rfl⟩ := h
      obtain ⟨e, he, hne⟩ := conT_ok ht
      refine .pure hc (c := .iface t (ρv x)) ?_ ⟨ρv x, rfl, .one (hρ.ev x)⟩
      simp only [Sem.run_bind, Instr.makeInterface, run_underlying he, Result.andThen]
      cases e <;> first | (exact absurd rfl (hne _)) | simp
    · cases h
  | lookup t m x ok =>
    rw [ho] at h; simp only [evOp] at h
    split at h
    · rename_i g k hm hx
      split at h
      · rename_i b P' t' q n f hf
        simp only [Res.ok.injEq] at h; obtain ⟨rfl, rfl, rfl⟩ := h
        obtain ⟨rfl, rfl, hk⟩ := hp
        have e1 := hρ.ev m
        rw [hm] at e1
        have e1 : ρv m = .map (some g) := e1
        have e2 := intA_ok (by rw [hx]; rfl) (hρ.ev x)
        have h1 := look_ok hc (findM_ok hf) hk ok
        rw [← e1, ← e2] at h1
        exact h1.op
      · cases h
    · rename_i P' t' q f k hm hx
      simp only [Res.ok.injEq] at h; obtain ⟨rfl, rfl, rfl⟩ := h
      obtain ⟨rfl, rfl, hk⟩ := hp
      have e1 := hρ.ev m
      rw [hm] at e1
      obtain ⟨g, n, e1, _, hmap⟩ := (show PV κ.S κ.w _ _ from e1)
      have e2 := intA_ok (by rw [hx]; rfl) (hρ.ev x)
      have h1 := look_at hc hmap hk ok
      rw [← e1, ← e2] at h1
      exact h1.op
    · rename_i g cs hm hx
      split at h
      · rename_i k b l n hk hf ht
        split at h
        · rename_i hok
          subst hok
          simp only [Res.ok.injEq] at h; obtain ⟨rfl, rfl, rfl⟩ := h
          have e1 := hρ.ev m
          rw [hm] at e1
          have e1 : ρv m = .map (some g) := e1
          have e2 := hρ.ev x
          rw [hx] at e2
          have e2 := agg_kV hk e2
          have h1 := lookR_ok hc hf ht hp.1 hp.2
          rw [← e1, ← e2] at h1
          exact h1.op
        · cases h
      · cases h
    · cases h
  | mapEntry t m x =>
    rw [ho] at h; simp only [evOp] at h
    split at h
    · rename_i g cs hm hx
      split at h
      · rename_i k b l n hk hf ht
        simp only [Res.ok.injEq] at h; obtain ⟨rfl, rfl, rfl⟩ := h
        have e1 := hρ.ev m
        rw [hm] at e1
        have e1 : ρv m = .map (some g) := e1
        have e2 := hρ.ev x
        rw [hx] at e2
        have e2 := agg_kV hk e2
        have h1 := entR_ok hc hf ht hp.1 hp.2
        rw [← e1, ← e2] at h1
        exact h1.op
      · cases h
    · cases h
  | entryStore t m s v =>
    rw [ho] at h; simp only [evOp] at h
    split at h
    · rename_i g j n hm hx hv
      split at h
      · rename_i b l hf
        simp only [Res.ok.injEq] at h; obtain ⟨rfl, rfl, rfl⟩ := h
        have e1 := hρ.ev m
        rw [hm] at e1
        have e1 : ρv m = .map (some g) := e1
        have e2 := hρ.ev s
        rw [hx] at e2
        have e2 : ρv s = .int .i64 j := e2
        have e3 := hρ.ev v
        rw [hv] at e3
        have e3 : ρv v = .int .i64 n := e3
        obtain ⟨κ', r1, r2, r3, r4⟩ := stoR_ok (P := P) (t := t) (n := n) hc hf (j := j.toNat) (by omega)
        rw [Int.toNat_of_nonneg hp.1] at r1
        exact ⟨κ', undef, .inr ⟨by simp [Sem.run_bind, e1, e2, e3, r1, Result.andThen], rfl⟩, r2, r3, r4, trivial⟩
      · cases h
    · cases h
  | entry x =>
    rw [ho] at h; simp only [evOp] at h
    split at h
    · rename_i r hx
      split at h
      · rename_i b g since seen last hf
        split at h
        · rename_i b' l j hg hs
          simp only [Res.ok.injEq] at h; obtain ⟨rfl, rfl, rfl⟩ := h
          obtain ⟨hj, rfl⟩ := hp
          have e1 := hρ.ev x
          rw [hx] at e1
          have e1 : ρv x = .pointer (some ⟨r, 0, none⟩) := e1
          have h1 := etyR_ok (P := P) hc hf hg hs hj
          rw [← e1] at h1
          exact h1.op
        · cases h
      · cases h
    · cases h
  | mapUpdate t m x v =>
    rw [ho] at h; simp only [evOp] at h
    split at h
    · rename_i g k q' y hm hx hv
      split at h
      · rename_i b P' t' q n f hf
        simp only [Res.ok.injEq] at h; obtain ⟨rfl, rfl, rfl⟩ := h
        obtain ⟨rfl, rfl, rfl, hk, hy, hn⟩ := hp
        have e1 := hρ.ev m
        rw [hm] at e1
        have e1 : ρv m = .map (some g) := e1
        have e2 := hρ.ev x
        rw [hx] at e2
        have e2 : ρv x = .int .i64 k := e2
        have e3 := hρ.ev v
        rw [hv] at e3
        have e3 : ρv v = .int q' y := e3
        obtain ⟨κ', r1, r2, r3, r4⟩ := update_ok hc (findM_ok hf) hk hy hn
        exact ⟨κ', undef, .inr ⟨by simp [Sem.run_bind, e1, e2, e3, r1, Result.andThen], rfl⟩, r2, r3, r4, trivial⟩
      · cases h
    · cases h
  | _ => rw [ho] at h; simp only [evOp] at h; cases h
end
def Marks(E κ:Cx)(ds:List Deferred):Prop:=
 ∀d∈ds,∃ D,d={ target:= .collected D,args:= #[] }∧κ.w.heap[D]? =some (.deferred (some []))∧E.w.heap.size≤D∧ ¬Owned κ D
def Good(nt:Nat)(E:Cx)(st:St)(a:Act)(w:World):Prop:=
 ∃κ:Cx,κ.w=w∧κ.H=st.H∧Conc κ∧StepM E κ∧a.tmps.size=nt∧(∀t,V κ (eget st.env t) (a.tmps.getD t undef))∧(a.defers.Nodup∧Marks E κ a.defers)
theorem Marks.step{E κ κ':Cx}{ds:List Deferred}(h:Marks E κ ds)(hs:StepM κ κ'):Marks E κ' ds:=by
 intro d hd
 obtain⟨D,h1,h2,h3,h4⟩:=h d hd
 have hlt:D<κ.w.heap.size:=(Array.getElem?_eq_some_iff.1 h2).1
 exact⟨D,h1,by rw[hs.frame D hlt h4];exact h2,h3,fun ho=>(hs.own D ho).elim h4 (by omega)⟩
theorem eget_put(env:Env)(d:Option Nat)(v:AV)(t:Nat):eget (eput env d v) t=if d=some t then v else eget env t:=by
 cases d with
 |none=>simp[eput]
 |some d=>simp[eput,eget]
theorem getD_put{a:Act}{nt:Nat}{dst:Option Nat}{c:Value}(hs:a.tmps.size=nt)(hd: ∀d,dst=some d→d<nt)(t:Nat):(a.put dst c).tmps.getD t undef=if dst=some t then c else a.tmps.getD t undef:=by
 cases dst with
 |none=>simp[Act.put]
 |some d=>
  have:=hd d rfl
  by_cases e:d=t
  ·subst e
   simp[Act.put,show d<a.tmps.size from by omega]
  ·simp[Act.put,e]
theorem Good.put{nt:Nat}{E:Cx}{st:St}{a:Act}{κ κ':Cx}{dst:Option Nat}{v:AV}{c:Value}(hH:κ.H=st.H)(hc:Conc κ)(hE:StepM E κ)(hn:a.tmps.size=nt)(hv: ∀t,V κ (eget st.env t) (a.tmps.getD t undef))(hm:a.defers.Nodup∧Marks E κ a.defers)
  (hc':Conc κ') (hs:StepM κ κ') (hv':V κ' v c) (hd: ∀d,dst=some d→d<nt):Good nt E ⟨eput st.env dst v,κ'.H⟩ (a.put dst c) κ'.w:=by
 refine⟨κ',rfl,rfl,hc',hE.trans hs,?_,fun t=>?_,?_⟩
 ·cases dst<;>simp[Act.put,hn]
 ·rw[eget_put,getD_put hn hd]
  split
  ·exact hv'
  ·exact V.mono hs.toKeep _ _ (hv t)
 ·cases dst<;>exact⟨hm.1,hm.2.step hs⟩
inductive It where
 |code (c:Code)
 |inBlock (id:Nat)
 |back (I:St→Prop)
 |ops (l:List Oper) (all:Array Oper)
section
variable (P:Program) (F:Fence) (nt:Nat) (E:Cx) (R:Exit→St→Prop)
def post:List It→Exit→Act→World→Prop
 |[],e,a,w=> ∃st,R e st∧Good nt E st a w
 | .code c::k,e,a,w=>match e with
  | .normal=>c.wpIn F 0 P (fun e a w=>post k e a w) a w
  |e=>post k e a w
 | .ops l all::k,e,a,w=>match e with
  | .normal=>wpListIn F 0 P all (fun e a w=>post k e a w) l a w
  |e=>post k e a w
 | .back I::k,e,a,w=>match e with
  | .normal=> ∃st,I st∧Good nt E st a w
  |e=>post k e a w
 | .inBlock id::k,e,a,w=>match e with
  | .exit id'=>if id'=id then post k .normal a w else post k (.exit id') a w
  |e=>post k e a w
end
def Wide(F:Fence):Prop:=F=Fence.wide∨ ∃l,F=Fence.wide.inRound l
def WideE(F:Fence)(E:Cx):Prop:=Wide F∧ ∀l,F.round=some l→ ¬Owned E l∧ ∃r,E.w.heap[l]? =some (.loop r)
def VC(P:Program)(nt m:Nat)(R:Exit→St→Prop)(k:List It)(st:St):Prop:=
 ∀(F:Fence) (E:Cx) (a:Act) (w:World),WideE F E→E.H.length=m→Good nt E st a w→post P F nt E R k .normal a w
def HCH(P:Program)(f:FuncId)(args:List AV)(H:Heap)(Q:AV→Heap→Prop):Prop:=
 (∀args w,(callFunc f args).run P w= .ok (.enter f args) w)∧
 ∀(κ:Cx) (cargs:List Value),Conc κ→κ.H=H→VL κ args cargs→
  Calls P f cargs.toArray κ.w fun e w'=> ∃r c κ',e= .returned c∧Q r κ'.H∧κ'.w=w'∧Conc κ'∧StepM κ κ'∧V κ' r c
theorem HCH.mono{P:Program}{f:FuncId}{args:List AV}{H:Heap}{Q Q':AV→Heap→Prop}(h:HCH P f args H Q)(hq: ∀r H',Q r H'→Q' r H'):HCH P f args H Q':=
 ⟨h.1,fun κ cargs hc hH hv=>(h.2 κ cargs hc hH hv).mono fun e w' ⟨r,c,κ',e1,q,rest⟩=>⟨r,c,κ',e1,hq _ _ q,rest⟩⟩
def HCY(P:Program)(l:Nat)(args:List AV)(H:Heap)(Q:AV→Heap→Prop):Prop:=
 ∀(F:Fence) (κ:Cx) (cargs:List Value),Wide F→Conc κ→κ.H=H→VL κ args cargs→
  ∃fn tmps assign body,(Instr.yield l cargs.toArray).run P κ.w= .ok (.round l fn tmps assign body) κ.w∧
   RoundIn F 0 P l fn tmps assign body κ.w fun e w'=> ∃r c κ',e= .returned c∧Q r κ'.H∧κ'.w=w'∧Conc κ'∧StepM κ κ'∧V κ' r c
theorem HCY.mono{P:Program}{l:Nat}{args:List AV}{H:Heap}{Q Q':AV→Heap→Prop}(h:HCY P l args H Q)(hq: ∀r H',Q r H'→Q' r H'):HCY P l args H Q':=
 fun F κ cargs hF hc hH hv=>by
  obtain⟨fn,tmps,assign,body,h1,h2⟩:=h F κ cargs hF hc hH hv
  exact⟨fn,tmps,assign,body,h1,h2.mono fun e w' ⟨r,c,κ',e1,q,rest⟩=>⟨r,c,κ',e1,hq _ _ q,rest⟩⟩
section
variable {P:Program} {nt m:Nat} {R:Exit→St→Prop} {k:List It} {st:St}
theorem VC.nil(h:R .normal st):VC P nt m R [] st:=fun F E a w _ _ hg=>⟨st,h,hg⟩
theorem VC.skip(h:VC P nt m R k st):VC P nt m R (.code .skip::k) st:=fun F E a w hF hE hg=>wpIn_skip (h F E a w hF hE hg)
theorem VC.inBlock{id:Nat}(h:VC P nt m R k st):VC P nt m R (.inBlock id::k) st:=h
theorem VC.back{I:St→Prop}(h:I st):VC P nt m R (.back I::k) st:=fun F E a w _ _ hg=>⟨st,h,hg⟩
theorem VC.nops{all:Array Oper}(h:VC P nt m R k st):VC P nt m R (.ops [] all::k) st:=fun F E a w hF hE hg=>h F E a w hF hE hg
theorem VC.seq{x y:Code}(h:VC P nt m R (.code x:: .code y::k) st):VC P nt m R (.code (.seq x y)::k) st:=fun F E a w hF hE hg=>
 wpIn_seq (wpIn_mono (h F E a w hF hE hg) fun e a w hp=>by cases e<;>exact hp)
theorem VC.block{id:Nat}{c:Code}(h:VC P nt m R (.code c:: .inBlock id::k) st):VC P nt m R (.code (.block id c)::k) st:=fun F E a w hF hE hg=>
 wpIn_block (wpIn_mono (h F E a w hF hE hg) fun e a w hp=>by cases e<;>exact hp)
theorem VC.cond{c:Operand}{x y:Code}{t:Bool}(hc:evA st.env c= .bool t)(h1:t=true→VC P nt m R (.code x::k) st)(h2:t=false→VC P nt m R (.code y::k) st):VC P nt m R (.code (.cond c x y)::k) st:=by
 intro F E a w hF hE hg
 have hv:a.eval c= .bool t:=by
  obtain⟨κ,_,_,_,_,_,hv,_⟩:=id hg
  cases c with
  |tmp i=>
   have:=hv i
   rw[show eget st.env i= .bool t from hc]at this
   exact this
  |const v=>
   have:=absV_ok κ v
   rw[show absV v= .bool t from hc]at this
   exact this
  |global g=>exact absurd hc (gfind_bool _ _)
  |func f=>cases hc
 cases t with
 |true=>exact wpIn_cond_true hv (h1 rfl F E a w hF hE hg)
 |false=>exact wpIn_cond_false hv (h2 rfl F E a w hF hE hg)
theorem VC.region{id:Nat}{ops:Array Oper}(h:VC P nt m R (.ops ops.toList ops::k) st):VC P nt m R (.code (.region id ops false)::k) st:=fun F E a w hF hE hg=>
 wpIn_region_list (h F E a w hF hE hg)
def exitK(id:Nat):List It→Option (List It)
 |[]=>none
 | .inBlock id'::k=>if id=id' then some k else exitK id k
 |_::k=>exitK id k
theorem post_exit{F:Fence}{E:Cx}{id:Nat}{a:Act}{w:World}: ∀{k k':List It},exitK id k=some k'→post P F nt E R k' .normal a w→post P F nt E R k (.exit id) a w
 |[],k',h,_=>by cases h
 | .inBlock id'::k,k',h,hp=>by
  simp only[exitK]at h
  simp only[post]
  split at h
  ·rename_i e
   cases h
   rw[if_pos e];exact hp
  ·rename_i e
   rw[if_neg e];exact post_exit h hp
 | .code c::k,k',h,hp=>post_exit (k:=k) h hp
 | .back I::k,k',h,hp=>post_exit (k:=k) h hp
 | .ops l all::k,k',h,hp=>post_exit (k:=k) h hp
theorem post_exit0{F:Fence}{E:Cx}{id:Nat}{a:Act}{w:World}(hp: ∃st,R (.exit id) st∧Good nt E st a w): ∀{k:List It},exitK id k=none→post P F nt E R k (.exit id) a w
 |[],_=>hp
 | .inBlock id'::k,h=>by
  simp only[exitK]at h
  simp only[post]
  split at h
  ·cases h
  ·rename_i e
   rw[if_neg e];exact post_exit0 hp h
 | .code c::k,h=>post_exit0 hp (k:=k) h
 | .back I::k,h=>post_exit0 hp (k:=k) h
 | .ops l all::k,h=>post_exit0 hp (k:=k) h
theorem VC.exit0{id:Nat}(he:exitK id k=none)(h:R (.exit id) st):VC P nt m R (.code (.exit id)::k) st:=fun F E a w hF hE hg=>
 wpIn_exit (post_exit0 ⟨st,h,hg⟩ he)
theorem VC.exit{id:Nat}{k':List It}(he:exitK id k=some k')(h:VC P nt m R k' st):VC P nt m R (.code (.exit id)::k) st:=fun F E a w hF hE hg=>
 wpIn_exit (post_exit he (h F E a w hF hE hg))
theorem post_ret{F:Fence}{E:Cx}{a:Act}{w:World}(h: ∃st,R .ret st∧Good nt E st a w): ∀{k:List It},post P F nt E R k .ret a w
 |[]=>h
 | .inBlock _::k=>post_ret h (k:=k)
 | .code _::k=>post_ret h (k:=k)
 | .back _::k=>post_ret h (k:=k)
 | .ops _ _::k=>post_ret h (k:=k)
theorem VC.ret(h:R .ret st):VC P nt m R (.code .ret::k) st:=fun F E a w _ _ hg=>wpIn_ret (post_ret ⟨st,h,hg⟩)
theorem VC.wk{st':St}(hw: ∀(E:Cx) (a:Act) (w:World),E.H.length=m→Good nt E st a w→Good nt E st' a w)(h:VC P nt m R k st'):VC P nt m R k st:=fun F E a w hF hE hg=>h F E a w hF hE (hw E a w hE hg)
theorem least_of{p:Nat→Prop}: ∀n,p n→ ∃k,p k∧ ∀j,p j→k≤j:=by
 intro n
 induction n using Nat.strongRecOn with
 |_ n ih=>
  intro hn
  by_cases h: ∃j,j<n∧p j
  ·obtain⟨j,hj,hp⟩:=h
   exact ih j hj hp
  ·exact⟨n,hn,fun j hj=>by
    rcases Nat.lt_or_ge j n with hl|hl
    ·exact absurd ⟨j,hl,hj⟩ h
    ·exact hl⟩
open Classical in
theorem VC.loop{c:Code}(I:Nat→St→Prop)(n:Nat)(h0:I n st)(h: ∀n s,I n s→VC P nt m R (.code c:: .back (fun s'=> ∃j,j<n∧I j s')::k) s):VC P nt m R (.code (.loop c)::k) st:=by
 intro F E a w hF hE hg
 let p:Act→World→Nat→Prop:=fun a w n=> ∃s,I n s∧Good nt E s a w
 let J:Act→World→Prop:=fun a w=> ∃n,p a w n
 let μ:Act→World→Nat:=fun a w=>if hq:J a w then Classical.choose (least_of (p:=p a w) hq.choose hq.choose_spec)else 0
 have hspec: ∀a w,J a w→p a w (μ a w)∧ ∀j,p a w j→μ a w≤j:=fun a w hq=>by
  have:=Classical.choose_spec (least_of (p:=p a w) hq.choose hq.choose_spec)
  simp only[μ]
  rw[dif_pos hq];exact this
 refine wpIn_loop J μ ⟨n,st,h0,hg⟩ ?_
 intro a w hq
 obtain⟨⟨s,hi,hgs⟩,_⟩:=hspec a w hq
 refine wpIn_mono (h (μ a w) s hi F E a w hF hE hgs) fun e a' w' hp=>?_
 cases e with
 |normal=>
  obtain⟨s',⟨j,hj,hi'⟩,hg'⟩:=hp
  have hq':J a' w':=⟨j,s',hi',hg'⟩
  refine⟨hq',?_⟩
  have:=(hspec a' w' hq').2 j ⟨s',hi',hg'⟩
  omega
 |_=>exact hp
end
theorem Good.rho{nt:Nat}{E:Cx}{st:St}{a:Act}{w:World}(h:Good nt E st a w): ∃κ:Cx,κ.w=w∧κ.H=st.H∧Conc κ∧StepM E κ∧a.tmps.size=nt∧(∀t,V κ (eget st.env t) (a.tmps.getD t undef))∧(a.defers.Nodup∧Marks E κ a.defers)∧Rho κ st.env a.eval:=by
 obtain⟨κ,h1,h2,h3,h4,h5,h6,h7⟩:=h
 exact⟨κ,h1,h2,h3,h4,h5,h6,h7,⟨h6,fun _=>rfl,fun _=>rfl,fun g=>gav_ok h3 g⟩⟩
theorem Wide.fn{F:Fence}(h:Wide F): ∀f,F.fn f:=by
 rcases h with rfl|⟨l,rfl⟩<;>exact fun _=>trivial
theorem Wide.depth{F:Fence}(h:Wide F):F.depth=none:=by
 rcases h with rfl|⟨l,rfl⟩<;>rfl
theorem Wide.calls{F:Fence}(h:Wide F){P:Program}{n:Nat}{f:FuncId}{args:Array Value}{w:World}{Q:Ending→World→Prop}(hc:Calls P f args w Q):CallsIn F n P f args w Q:=by
 rcases h with rfl|⟨l,rfl⟩
 ·exact callsIn_wide.2 hc
 ·exact CallsIn.inRound l (callsIn_wide.2 hc)
def guardV(all:Array Oper)(j:Nat)(env:Env):AV:=match(all[j]?).bind (·.dst)with|some d=>eget env d|none=> .any
theorem yielded_of{κ:Cx}{all:Array Oper}{j:Nat}{env:Env}{a:Act}{t:Bool}(hv: ∀t,V κ (eget env t) (a.tmps.getD t undef))(h:guardV all j env= .bool t):yielded all a.tmps j=some t:=by
 unfold guardV at h
 unfold yielded
 split at h
 ·rename_i d hd
  rw[hd]
  have:=hv d
  rw[h]at this
  have this:a.tmps.getD d undef= .bool t:=this
  simp only[Option.bind_some]
  rcases Nat.lt_or_ge d a.tmps.size with hl|hl
  ·have e:a.tmps[d]? =some (a.tmps.getD d undef):=by simp[hl]
   rw[e,this]
  ·have e:a.tmps.getD d undef=undef:=by simp[Array.getD,Nat.not_lt.2 hl]
   rw[e]at this
   cases this
 ·cases h
theorem yielded_undef{κ:Cx}{all:Array Oper}{j:Nat}{env:Env}{a:Act}(hv: ∀t,V κ (eget env t) (a.tmps.getD t undef))(h:guardV all j env= .tup []):yielded all a.tmps j=none:=by
 unfold guardV at h
 unfold yielded
 split at h
 ·rename_i d hd
  rw[hd]
  have:=hv d
  rw[h]at this
  obtain⟨c,e,hl⟩:=this
  simp only[Option.bind_some]
  rcases Nat.lt_or_ge d a.tmps.size with hl|hl
  ·have e2:a.tmps[d]? =some (a.tmps.getD d undef):=by simp[hl]
   rw[e2,e]
  ·simp[Array.getElem?_eq_none hl]
 ·cases h
section
variable {P:Program} {nt m:Nat} {R:Exit→St→Prop} {k:List It} {st:St} {all:Array Oper} {o:Oper} {rest:List Oper}
def dstOk(nt:Nat):Option Nat→Prop
 |some d=>d<nt
 |none=>True
theorem oper_of{F:Fence}{a:Act}{w w':World}{c:Value}{K:Act→World→Prop}{Q:Exit→Act→World→Prop}(hF:Wide F)(ho: ∀c,o.op≠ .defer c)
  (hr:(execOp a.eval o).run P w= .ok (.value c) w'∨((execOp a.eval o).run P w= .ok .skip w'∧c=undef)) (hk:K (a.put o.dst c) w'):o.wpIn F 0 P a w K Q:=by
 refine⟨fun f _=>hF.fn f,?_⟩
 rw[Oper.semAt_eq _ _ _ ho]
 rcases hr with hr|⟨hr,rfl⟩
 ·rw[hr];exact hk
 ·rw[hr];exact hk
theorem not_defer{p:Prop}{v:AV}{H H':Heap}{env:Env}(h:evOp P env H o.op= .ok p v H'): ∀c,o.op≠ .defer c:=by
 intro c e
 rw[e]at h
 simp only[evOp]at h
 cases h
theorem VC.run{p:Prop}{v:AV}{H':Heap}(hd:dstOk nt o.dst)(hw:o.guard=none∨ ∃j t,o.guard=some (j,t)∧guardV all j st.env= .bool t)(he:evOp P st.env st.H o.op= .ok p v H')(hp:p)(h:VC P nt m R (.ops rest all::k) ⟨eput st.env o.dst v,H'⟩):
  VC P nt m R (.ops (o::rest) all::k) st:=by
 intro F E a w hF hE hg
 obtain⟨κ,rfl,h2,h3,h4,h5,h6,h7,h8⟩:=hg.rho
 have hwt:Region.wanted o (yielded all a.tmps)=true:=by
  rcases hw with hw|⟨j,t,hw,ht⟩
  ·simp[Region.wanted,hw]
  ·simp[Region.wanted,hw,yielded_of h6 ht]
 simp only[post,wpListIn,hwt,if_true]
 rw[←h2]at he
 obtain⟨κ',c,r1,r2,r3,rfl,r5⟩:=evOp_sound h3 h8 o he hp
 refine oper_of hF.1 (not_defer he) r1 ?_
 exact h F E _ _ hF hE (.put h2 h3 h4 h5 h6 h7 r2 r3 r5 (fun d e=>by rw[e]at hd;exact hd))
theorem VC.pass{j:Nat}{t t':Bool}(hd:dstOk nt o.dst)(hw:o.guard=some (j,t))(ht:guardV all j st.env= .bool t')(hne:t'≠t)(h:VC P nt m R (.ops rest all::k) ⟨eput st.env o.dst (.tup []),st.H⟩):
  VC P nt m R (.ops (o::rest) all::k) st:=by
 intro F E a w hF hE hg
 obtain⟨κ,rfl,h2,h3,h4,h5,h6,h7,h8⟩:=hg.rho
 have hwt:Region.wanted o (yielded all a.tmps)=false:=by
  simp[Region.wanted,hw,yielded_of h6 ht,hne]
 simp only[post,wpListIn,hwt]
 refine⟨fun f _=>hF.1.fn f,?_⟩
 refine h F E _ _ hF hE ?_
 rw[←h2]
 exact .put h2 h3 h4 h5 h6 h7 h3 (.refl κ) ⟨#[],rfl,rfl⟩ (fun d e=>by rw[e]at hd;exact hd)
theorem VC.passU{j:Nat}{t:Bool}(hd:dstOk nt o.dst)(hw:o.guard=some (j,t))(ht:guardV all j st.env= .tup [])(h:VC P nt m R (.ops rest all::k) ⟨eput st.env o.dst (.tup []),st.H⟩):
  VC P nt m R (.ops (o::rest) all::k) st:=by
 intro F E a w hF hE hg
 obtain⟨κ,rfl,h2,h3,h4,h5,h6,h7,h8⟩:=hg.rho
 have hwt:Region.wanted o (yielded all a.tmps)=false:=by
  simp[Region.wanted,hw,yielded_undef h6 ht]
 simp only[post,wpListIn,hwt]
 refine⟨fun f _=>hF.1.fn f,?_⟩
 refine h F E _ _ hF hE ?_
 rw[←h2]
 exact .put h2 h3 h4 h5 h6 h7 h3 (.refl κ) ⟨#[],rfl,rfl⟩ (fun d e=>by rw[e]at hd;exact hd)
theorem VL.map_ev{κ:Cx}{env:Env}{ρv:Operand→Value}(hρ:Rho κ env ρv): ∀l:List Operand,VL κ (l.map (evA env)) (l.map ρv)
 |[]=>rfl
 |x::l=>⟨_,_,rfl,hρ.ev x,VL.map_ev hρ l⟩
theorem VC.call{f:Operand}{args:Array Operand}{argTypes:Array TypeId}{g:FuncId}{caps:List AV}(hd:dstOk nt o.dst)(hw:o.guard=none∨ ∃j t,o.guard=some (j,t)∧guardV all j st.env= .bool t)
  (ho:o.op= .call { callee:= .value f,args:=args,argTypes:=argTypes }) (hf:evA st.env f= .fn g caps)
  (h:HCH P g (args.toList.map (evA st.env)++caps) st.H fun r H'=>VC P nt m R (.ops rest all::k) ⟨eput st.env o.dst r,H'⟩):VC P nt m R (.ops (o::rest) all::k) st:=by
 intro F E a w hF hE hg
 obtain⟨κ,rfl,h2,h3,h4,h5,h6,h7,h8⟩:=hg.rho
 have hwt:Region.wanted o (yielded all a.tmps)=true:=by
  rcases hw with hw|⟨j,t,hw,ht⟩
  ·simp[Region.wanted,hw]
  ·simp[Region.wanted,hw,yielded_of h6 ht]
 simp only[post,wpListIn,hwt,if_true]
 have hfv:=h8.ev f
 rw[hf]at hfv
 obtain⟨cc,e1,hl⟩:=hfv
 have hvl:VL κ (args.toList.map (evA st.env)++caps) (args.toList.map a.eval++cc.toList):=(VL.map_ev h8 _).append hl
 have hrun:(execOp a.eval o).run P κ.w= .ok (.enter g ((args.toList.map a.eval++cc.toList).toArray)) κ.w:=by
  have e2:(args.map a.eval++cc)=(args.toList.map a.eval++cc.toList).toArray:=by apply Array.toList_inj.1;simp
  unfold execOp
  rw[ho]
  simp[resolve,Deferred.ofValue,e1,invoke,e2,h.1]
 have hcalls:=h.2 κ _ h3 h2 hvl
 refine⟨fun f _=>hF.1.fn f,?_⟩
 rw[Oper.semAt_eq _ _ _ (by intro c e;rw[ho]at e;cases e),hrun]
 refine⟨(fun hdep=>by rw[hF.1.depth]at hdep;cases hdep),hF.1.calls (hcalls.mono ?_)⟩
 rintro e w' ⟨r,c,κ',rfl,hvc,rfl,r1,r2,r3⟩
 exact hvc F E _ _ hF hE (.put h2 h3 h4 h5 h6 h7 r1 r2 r3 (fun d e=>by rw[e]at hd;exact hd))
theorem VC.callB{f:Operand}{args:Array Operand}{argTypes:Array TypeId}{g:FuncId}{fs:List AV}(hd:dstOk nt o.dst)(hw:o.guard=none∨ ∃j t,o.guard=some (j,t)∧guardV all j st.env= .bool t)
  (ho:o.op= .call { callee:= .value f,args:=args,argTypes:=argTypes }) (hf:evA st.env f= .bf g fs)
  (h:HCH P g (fs++args.toList.map (evA st.env)) st.H fun r H'=>VC P nt m R (.ops rest all::k) ⟨eput st.env o.dst r,H'⟩):VC P nt m R (.ops (o::rest) all::k) st:=by
 intro F E a w hF hE hg
 obtain⟨κ,rfl,h2,h3,h4,h5,h6,h7,h8⟩:=hg.rho
 have hwt:Region.wanted o (yielded all a.tmps)=true:=by
  rcases hw with hw|⟨j,t,hw,ht⟩
  ·simp[Region.wanted,hw]
  ·simp[Region.wanted,hw,yielded_of h6 ht]
 simp only[post,wpListIn,hwt,if_true]
 have hfv:=h8.ev f
 rw[hf]at hfv
 obtain⟨cc,e1,hl⟩:=hfv
 have hvl:VL κ (fs++args.toList.map (evA st.env)) (cc.toList++args.toList.map a.eval):=hl.append (VL.map_ev h8 _)
 have hrun:(execOp a.eval o).run P κ.w= .ok (.enter g ((cc.toList++args.toList.map a.eval).toArray)) κ.w:=by
  have e2:(cc++args.map a.eval)=(cc.toList++args.toList.map a.eval).toArray:=by apply Array.toList_inj.1;simp
  unfold execOp
  rw[ho]
  simp[resolve,Deferred.ofValue,e1,invoke,e2,h.1]
 have hcalls:=h.2 κ _ h3 h2 hvl
 refine⟨fun f _=>hF.1.fn f,?_⟩
 rw[Oper.semAt_eq _ _ _ (by intro c e;rw[ho]at e;cases e),hrun]
 refine⟨(fun hdep=>by rw[hF.1.depth]at hdep;cases hdep),hF.1.calls (hcalls.mono ?_)⟩
 rintro e w' ⟨r,c,κ',rfl,hvc,rfl,r1,r2,r3⟩
 exact hvc F E _ _ hF hE (.put h2 h3 h4 h5 h6 h7 r1 r2 r3 (fun d e=>by rw[e]at hd;exact hd))
theorem VC.callI{f:Operand}{name:String}{args:Array Operand}{argTypes:Array TypeId}{g:FuncId}{t:TypeId}{cs:List AV}(hd:dstOk nt o.dst)(hw:o.guard=none∨ ∃j t,o.guard=some (j,t)∧guardV all j st.env= .bool t)
  (ho:o.op= .call { callee:= .invoke f name,args:=args,argTypes:=argTypes }) (hf:evA st.env f= .ifc t cs) (hm:mthT P t name=some g)
  (h:HCH P g (cs++args.toList.map (evA st.env)) st.H fun r H'=>VC P nt m R (.ops rest all::k) ⟨eput st.env o.dst r,H'⟩):VC P nt m R (.ops (o::rest) all::k) st:=by
 intro F E a w hF hE hg
 obtain⟨κ,rfl,h2,h3,h4,h5,h6,h7,h8⟩:=hg.rho
 have hwt:Region.wanted o (yielded all a.tmps)=true:=by
  rcases hw with hw|⟨j,t,hw,ht⟩
  ·simp[Region.wanted,hw]
  ·simp[Region.wanted,hw,yielded_of h6 ht]
 simp only[post,wpListIn,hwt,if_true]
 have hfv:=h8.ev f
 rw[hf]at hfv
 obtain⟨x,e1,hl⟩:=hfv
 have hvl:VL κ (cs++args.toList.map (evA st.env)) ([x]++args.toList.map a.eval):=hl.append (VL.map_ev h8 _)
 have hrun:(execOp a.eval o).run P κ.w= .ok (.enter g (([x]++args.toList.map a.eval).toArray)) κ.w:=by
  have e2: #[x]++args.map a.eval=([x]++args.toList.map a.eval).toArray:=by apply Array.toList_inj.1;simp
  have e3:=mthT_run hm x (P.types.size+99) κ.w
  have q0:(#[a.eval f]++args.map a.eval)[0]? =some (.iface t x):=by rw[Array.getElem?_append_left (by simp)];simp[e1]
  have q1:(#[a.eval f]++args.map a.eval).extract 1 (#[a.eval f]++args.map a.eval).size=args.map a.eval:=by
   apply Array.toList_inj.1
   simp
   rw[List.take_of_length_le (by simp)]
  have e5:(callMethod (.iface t x) name (args.map a.eval)).run P κ.w= .ok (.enter g (([x]++args.toList.map a.eval).toArray)) κ.w:=by
   have e3:(method (P.types.size+Made.depth) t x name).run P κ.w= .ok (g,x) κ.w:=e3
   simp only[callMethod,Sem.run_bind,run_program,Result.andThen_ok,e3,e2,h.1]
  unfold execOp
  rw[ho]
  simp only[resolve,Sem.run_bind,Sem.run_pure,Result.andThen_ok,invoke,q0,q1,e5]
 have hcalls:=h.2 κ _ h3 h2 hvl
 refine⟨fun f _=>hF.1.fn f,?_⟩
 rw[Oper.semAt_eq _ _ _ (by intro c e;rw[ho]at e;cases e),hrun]
 refine⟨(fun hdep=>by rw[hF.1.depth]at hdep;cases hdep),hF.1.calls (hcalls.mono ?_)⟩
 rintro e w' ⟨r,c,κ',rfl,hvc,rfl,r1,r2,r3⟩
 exact hvc F E _ _ hF hE (.put h2 h3 h4 h5 h6 h7 r1 r2 r3 (fun d e=>by rw[e]at hd;exact hd))
theorem VC.yield{f:Operand}{args:Array Operand}{argTypes:Array TypeId}{l:Nat}(hd:dstOk nt o.dst)(hw:o.guard=none∨ ∃j t,o.guard=some (j,t)∧guardV all j st.env= .bool t)
  (ho:o.op= .call { callee:= .value f,args:=args,argTypes:=argTypes }) (hf:evA st.env f= .yld l)
  (h:HCY P l (args.toList.map (evA st.env)) st.H fun r H'=>VC P nt m R (.ops rest all::k) ⟨eput st.env o.dst r,H'⟩):VC P nt m R (.ops (o::rest) all::k) st:=by
 intro F E a w hF hE hg
 obtain⟨κ,rfl,h2,h3,h4,h5,h6,h7,h8⟩:=hg.rho
 have hwt:Region.wanted o (yielded all a.tmps)=true:=by
  rcases hw with hw|⟨j,t,hw,ht⟩
  ·simp[Region.wanted,hw]
  ·simp[Region.wanted,hw,yielded_of h6 ht]
 simp only[post,wpListIn,hwt,if_true]
 have hfv:=h8.ev f
 rw[hf]at hfv
 have hfv:a.eval f= .func (.yield l) #[] #[]:=hfv
 have hvl:VL κ (args.toList.map (evA st.env)) (args.toList.map a.eval):=VL.map_ev h8 _
 obtain⟨fn,tmps,assign,body,hy,hR⟩:=h F κ _ hF.1 h3 h2 hvl
 have hrun:(execOp a.eval o).run P κ.w= .ok (.round l fn tmps assign body) κ.w:=by
  have e2:args.map a.eval=(args.toList.map a.eval).toArray:=by apply Array.toList_inj.1;simp
  unfold execOp
  rw[ho]
  simp[resolve,Deferred.ofValue,hfv,invoke,e2,hy]
 refine⟨fun f _=>hF.1.fn f,?_⟩
 rw[Oper.semAt_eq _ _ _ (by intro c e;rw[ho]at e;cases e),hrun]
 refine⟨(fun hdep=>by rw[hF.1.depth]at hdep;cases hdep),hR.mono ?_⟩
 rintro e w' ⟨r,c,κ',rfl,hvc,rfl,r1,r2,r3⟩
 exact hvc F E _ _ hF hE (.put h2 h3 h4 h5 h6 h7 r1 r2 r3 (fun d e=>by rw[e]at hd;exact hd))
end
def argEnv:Nat→List AV→Env
 |_,[]=>[]
 |i,v::vs=>(i,v)::argEnv (i+1) vs
theorem eget_argEnv: ∀(vs:List AV) (i t:Nat),eget (argEnv i vs) t=if i≤t then(vs[t-i]?).getD .any else .any
 |[],i,t=>by simp[argEnv,eget]
 |v::vs,i,t=>by
  simp only[argEnv,eget,eget_argEnv vs (i+1) t]
  by_cases h:i=t
  ·subst h;simp
  ·simp only[h,if_false]
   by_cases h2:i≤t
   ·rw[if_pos (by omega),if_pos h2,show t-i=(t-(i+1))+1 from by omega];simp
   ·rw[if_neg (by omega),if_neg h2]
def resA1(P:Program)(env:Env)(H:Heap):ResultVar→Option AV
 | .tmp t=>some (eget env t)
 | .cell a t=>match eget env a with
  | .lp b off=>match H[b]? with
   |some (.box _ cs _)=>ldC P t (cs.drop off)
   |_=>none
  |_=>none
def resA(P:Program)(env:Env)(H:Heap):List ResultVar→Option (List AV)
 |[]=>some []
 |r::rs=>match resA1 P env H r,resA P env H rs with
  |some v,some vs=>some (v::vs)
  |_,_=>none
def retOf:List AV→AV
 |[v]=>v
 |vs=> .tup vs
def Ret(P:Program)(rs:List ResultVar)(Q:AV→Heap→Prop)(e:Exit)(st:St):Prop:=
 (match e with| .normal| .ret=>True|_=>False)∧ ∃vs,resA P st.env st.H rs=some vs∧Q (retOf vs) st.H
section
variable {P:Program}
theorem resA_run{κ:Cx}(hc:Conc κ){env:Env}{tmps:Array Value}(hv: ∀t,V κ (eget env t) (tmps.getD t undef)): ∀(rs:List ResultVar) (vs:List AV),resA P env κ.H rs=some vs→
  ∃cs,(rs.mapM fun r=>(match r with| .tmp t=>pure (tmps.getD t undef)| .cell a t=>do loadVar t (←asAddr (tmps.getD a undef)):Sem Value)).run P κ.w= .ok cs κ.w∧VL κ vs cs
 |[],vs,h=>by simp only[resA,Option.some.injEq]at h;subst h;exact⟨[],by simp,rfl⟩
 |r::rs,vs,h=>by
  simp only[resA]at h
  split at h
  ·rename_i v vs' h1 h2
   cases h
   obtain⟨cs,r1,r2⟩:=resA_run hc hv rs vs' h2
   have: ∃c,((match r with| .tmp t=>pure (tmps.getD t undef)| .cell a t=>do loadVar t (←asAddr (tmps.getD a undef)):Sem Value)).run P κ.w= .ok c κ.w∧V κ v c:=by
    cases r with
    |tmp t=>simp only[resA1,Option.some.injEq]at h1;subst h1;exact⟨_,by simp,hv t⟩
    |cell a t=>
     simp only[resA1]at h1
     split at h1
     ·rename_i b off hb
      split at h1
      ·rename_i ty bcs sl hbb
       have hva:=hv a
       rw[hb]at hva
       obtain⟨_,_,_,_,e⟩:=hva
       have hcl:=(Cells.of_box hc hbb).drop off
       simp only[Nat.zero_add]at hcl
       obtain⟨c,q1,q2⟩:=ldC_sound (P:=P) (ad:=⟨(κ.ρ b).blk,off,none⟩) rfl hcl h1
       exact⟨c,by simp[Sem.run_bind,e,asAddr,Result.andThen,q1],q2⟩
      ·cases h1
     ·cases h1
   obtain⟨c,q1,q2⟩:=this
   exact⟨c::cs,by simp only[List.mapM_cons,Sem.run_bind,q1,Result.andThen_ok,r1,Sem.run_pure],c,cs,rfl,q2,r2⟩
  ·cases h
theorem results_run{κ:Cx}(hc:Conc κ){env:Env}{tmps:Array Value}{fn:Func}(hv: ∀t,V κ (eget env t) (tmps.getD t undef)){vs:List AV}(h:resA P env κ.H fn.results.toList=some vs):
  ∃c,(results fn tmps).run P κ.w= .ok c κ.w∧V κ (retOf vs) c:=by
 obtain⟨cs,r1,r2⟩:=resA_run hc hv _ vs h
 have hl:=r2.length
 refine⟨if h:cs.toArray.size=1 then cs.toArray[0]else .tuple cs.toArray,?_,?_⟩
 ·unfold results
  rw[Array.mapM_eq_mapM_toList]
  simp only[map_eq_pure_bind,bind_assoc,pure_bind]
  simp only[Sem.run_bind]
  exact(congrArg (fun x=>Result.andThen x _) r1).trans rfl
 ·match cs,vs,r2 with
  |[],[],_=>exact⟨#[],rfl,rfl⟩
  |[c],[v],⟨_,_,e,h1,_⟩=>simp only[List.cons.injEq]at e;obtain⟨rfl,_⟩:=e;exact h1
  |c::c'::cs,v::v'::vs,hh=>exact⟨_,by simp;rfl,by simpa using hh⟩
  |[],_::_,⟨_,_,e,_⟩=>cases e
  |_::_,[],e=>cases e
  |[_],_::_::_,⟨_,_,e,_,⟨_,_,e2,_⟩⟩=>simp only[List.cons.injEq]at e;obtain⟨_,rfl⟩:=e;cases e2
  |_::_::_,[_],⟨_,_,e,_,e2⟩=>simp only[List.cons.injEq]at e;obtain⟨_,rfl⟩:=e;cases e2
theorem Conc.putObj{κ:Cx}(hc:Conc κ){D:Nat}{o o':Obj}(hD:κ.w.heap[D]? =some o)(ho:isCM o=false)(ho':isCM o'=false)(hno: ¬Owned κ D):
  Conc { κ with w:=κ.w.putObj D o' }∧(∀E:Cx,E.w.heap.size≤D→StepM E κ→StepM E { κ with w:=κ.w.putObj D o' })∧Keep κ { κ with w:=κ.w.putObj D o' }:=by
 have hother: ∀g,g≠D→(κ.w.putObj D o').heap[g]? =κ.w.heap[g]? :=fun g hg=>World.putObj_heap_other hg
 have hlt:D<κ.w.heap.size:=(Array.getElem?_eq_some_iff.1 hD).1
 have hcell: ∀g k,SameAt κ.w (κ.w.putObj D o') g k:=by
  intro g k
  by_cases e:g=D
  ·subst e
   refine⟨?_,fun _ _ _ _ _ q=>(q.not hD fun _ _ e=>by subst e;cases ho).elim⟩
   unfold World.cell?
   simp only[World.putObj_heap_same hlt,hD]
   cases o<;>cases o'<;>simp_all [isCM]
  ·exact SameAt.of_block (hother g e)
 have hk:Keep κ { κ with w:=κ.w.putObj D o' }:=⟨fun g k hs=>⟨hs,hcell g k⟩,fun b ty cs sl hb=>⟨rfl,cs,sl,hb⟩,fun b el sz es sl hb=>⟨es,sl,hb,Nat.le_refl _,fun _=>rfl⟩,fun b el sz es g hb=>⟨es,g,hb,Nat.le_refl _,fun _=>⟨rfl,rfl⟩⟩⟩
 refine⟨⟨fun b x hb=>?_,hc.inj,fun b hb hn=>by simp[World.putObj];exact hc.lt b hb hn,fun g k hs=>by simp[World.putObj];exact hc.swf g k hs,hc.gls hk.s⟩,?_,hk⟩
 ·have hbl:=(List.getElem?_eq_some_iff.1 hb).1
  exact(hc.blk b x hb).keep hk rfl (fun hn=>hother _ (fun e=>hno ⟨b,hbl,hn,e⟩)) (fun _ _ hs=>hs)
 ·intro E hE hs
  exact { toKeep:=hs.toKeep.trans hk,os:=hs.os,tape:=hs.tape,output:=hs.output,size:=by simp[World.putObj];exact hs.size,frame:=fun g hg ho=>(hother g (by omega)).trans (hs.frame g hg ho),snew:=hs.snew,own:=hs.own }
theorem leave_ok{fn:Func}{Q:AV→Heap→Prop}{E:Cx}{vs:List AV}{env:Env}{tmps:Array Value}{RR:Ending→World→Prop}
  (hR: ∀(κ:Cx) (c:Value),Conc κ→StepM E κ→Q (retOf vs) κ.H→V κ (retOf vs) c→RR (.returned c) κ.w):
  ∀(ds:List Deferred) (κ:Cx),ds.Nodup→Marks E κ ds→Conc κ→StepM E κ→(∀t,V κ (eget env t) (tmps.getD t undef))→resA P env κ.H fn.results.toList=some vs→Q (retOf vs) κ.H→LeavesInM Fence.wide 0 P fn tmps RR ds .returning κ.w
 |[],κ,_,_,hc,hs,hv,hr,hq=>by
  obtain⟨c,r1,r2⟩:=results_run hc hv hr
  exact⟨c,r1,hR κ c hc hs hq r2⟩
 |d::ds,κ,hnd,hm,hc,hs,hv,hr,hq=>by
  obtain⟨D,e,h1,h2,h3⟩:=hm d (by simp)
  obtain⟨c1,c2,c3⟩:=hc.putObj (o':= .deferred none) h1 rfl rfl h3
  refine⟨by simp,.inl ⟨D,_,by rw[e],run_takeDeferred h1,?_⟩⟩
  refine leave_ok hR ds { κ with w:=κ.w.putObj D (.deferred none) } (List.nodup_cons.1 hnd).2 (fun d' hd'=>?_) c1 (c2 E h2 hs) (fun t=>V.mono c3 _ _ (hv t)) hr hq
  obtain⟨D',e',h1',h2',h3'⟩:=hm d' (by simp[hd'])
  refine⟨D',e',?_,h2',h3'⟩
  have:D'≠D:=fun he=>(List.nodup_cons.1 hnd).1 (by rw[e,← he,← e'];exact hd')
  rw[←h1']
  exact World.putObj_heap_other this
theorem HCH.of_body{f:FuncId}{fn:Func}{c:Code}{args:List AV}{H:Heap}{Q:AV→Heap→Prop}(hent: ∀args w,(callFunc f args).run P w= .ok (.enter f args) w)(hf:P.funcs[f]? =some fn)(hb:fn.body=some c)(hn:args.length≤fn.ntmps)
  (h:VC P fn.ntmps H.length (Ret P fn.results.toList Q) [.code c] ⟨argEnv 0 args,H⟩):HCH P f args H Q:=by
 refine⟨hent,fun κ cargs hc hH hv=>?_⟩
 subst hH
 have hl:=hv.length
 refine callsIn_wide (n:=0).1 (callsIn_of_wp_marks hf hb trivial ?_ rfl)
 refine wpIn_mono (h Fence.wide κ { tmps:=cargs.toArray++Array.replicate (fn.ntmps-cargs.toArray.size) undef,defers:=[] } κ.w ⟨.inl rfl,fun l h=>by cases h⟩ rfl ?_) ?_
 ·refine⟨κ,rfl,rfl,hc,.refl κ,by simp;omega,fun t=>?_,by simp,fun d hd=>by cases hd⟩
  rw[eget_argEnv]
  simp only[Nat.zero_le,if_true,Nat.sub_zero]
  cases hvt:args[t]? with
  |none=>trivial
  |some v=>
   obtain⟨c',h1,h2⟩:=hv.get t v hvt
   have hlt:t<cargs.length:=(List.getElem?_eq_some_iff.1 h1).1
   have:(cargs.toArray++Array.replicate (fn.ntmps-cargs.toArray.size) undef).getD t undef=c':=by
    have h3:(cargs.toArray++Array.replicate (fn.ntmps-cargs.toArray.size) undef)[t]? =some c':=by
     rw[Array.getElem?_append_left (by simpa using hlt)];simpa using h1
    simp only[Array.getD_eq_getD_getElem?, h3,Option.getD_some]
   rw[this];exact h2
 ·intro e a w hp
  have fin: ∀e,(∃st,Ret P fn.results.toList Q e st∧Good fn.ntmps κ st a w)→LeavesInM Fence.wide 0 P fn a.tmps (fun e w'=> ∃r c κ',e= .returned c∧Q r κ'.H∧κ'.w=w'∧Conc κ'∧StepM κ κ'∧V κ' r c) a.defers .returning w:=by
   rintro e ⟨st,⟨_,vs,h1,h2⟩,κ',rfl,g2,g3,g4,g5,g6,g7⟩
   rw[←g2]at h1 h2
   exact leave_ok (fun κ'' c' k1 k2 k3 k4=>⟨_,c',κ'',rfl,k3,rfl,k1,k2,k4⟩) a.defers κ' g7.1 g7.2 g3 g4 g6 h1 h2
  cases e with
  |normal=>exact fin _ hp
  |ret=>exact fin _ hp
  |exit id=>obtain⟨st,h1,_⟩:=hp;exact h1.1
  |goto l=>obtain⟨st,h1,_⟩:=hp;exact h1.1
  |panic ch=>obtain⟨st,h1,_⟩:=hp;exact h1.1.elim
  |outgrown=>obtain⟨st,h1,_⟩:=hp;exact h1.1.elim
end
def nilC(H:Heap)(op:BinOp)(e:Option (TypeId×Nat))(x y:AV):Option (Prop×Prop×Bool):=match op,e,x,y with
 | .eql,some _,.lst _ _ es,.nilS=>some (es=[],True,true)
 | .eql,some _,.row b n,.nilS=>some ((rowEls H b).length=n→n=0,True,true)
 | .eql,some _,.nilS,.nilS=>some (True,False,true)
 | .neq,some _,.lst _ _ es,.nilS=>some (es=[],True,false)
 | .neq,some _,.row b n,.nilS=>some ((rowEls H b).length=n→n=0,True,false)
 | .neq,some _,.nilS,.nilS=>some (True,False,false)
 |_,_,_,_=>none
def nilQ(P:Program)(env:Env)(H:Heap):Op→Option (Prop×Prop×Bool)
 | .binOp op t x y _=>nilC H op (elT P t) (evA env x) (evA env y)
 |_=>none
theorem run_slice_nil{P:Program}{t:TypeId}{e:TypeId×Nat}(h:elT P t=some e)(x y:Operand)(A:Option Addr)(n c:Nat)(w:World):
  ((do eqGuard .eql t x y (.slice A n c) (.slice none 0 0);binOp .eql t (.slice A n c) (.slice none 0 0):Sem Value).run P w= .ok (.bool A.isNone) w)∧
  ((do eqGuard .neq t x y (.slice A n c) (.slice none 0 0);binOp .neq t (.slice A n c) (.slice none 0 0):Sem Value).run P w= .ok (.bool (!A.isNone)) w):=by
 unfold elT at h
 split at h
 ·rename_i e' hu
  have h0:=Lib.run_equalIn_slice_nil w 9999 t e' A n c 0 0 hu
  constructor
  ·simp[Sem.run_bind,Result.andThen,eqGuard,binOp,Op.equal,Op.maxDepth,h0]
  ·simp[Sem.run_bind,Result.andThen,eqGuard,binOp,Op.equal,Op.maxDepth,h0]
 ·cases h
theorem nilC_sound{P:Program}{κ:Cx}{op:BinOp}{t:TypeId}{x y:AV}{cx cy:Value}{q:Prop×Prop×Bool}(hx:V κ x cx)(hy:V κ y cy)(hc:Conc κ)(h:nilC κ.H op (elT P t) x y=some q)(ox oy:Operand):
  ∃b,(do eqGuard op t ox oy cx cy;binOp op t cx cy:Sem Value).run P κ.w= .ok (.bool b) κ.w∧((q.1∧b=q.2.2)∨(q.2.1∧b= !q.2.2)):=by
 have hlst: ∀{f:Bool} {sz:Nat} {es:List (List AV)},V κ (.lst f sz es) cx→ ∃A cap,cx= .slice A es.length cap∧(A=none→es=[]):=by
  rintro f sz es ⟨A,cap,e1,e2,_,_,_,e3,_⟩
  exact⟨A,cap,e1,fun hA=>List.eq_nil_of_length_eq_zero (by have:=e3 hA;omega)⟩
 have hrow: ∀{b n:Nat},V κ (.row b n) cx→ ∃A cap,cx= .slice A n cap∧(A=none→(rowEls κ.H b).length=n→n=0):=by
  rintro b n ⟨⟨A,cap,e1⟩,el,sz,es,sl,hb,hn,hv⟩
  refine⟨A,cap,e1,fun hA hl=>?_⟩
  have hre:rowEls κ.H b=es:=by simp[rowEls,hb]
  rw[hre]at hl
  have e2:=hv hl
  rw[e1]at e2
  obtain⟨_,_,h3,_⟩:=hc.blk b _ hb
  unfold rowVal at e2
  cases hq:(κ.ρ b).isNil with
  |true=>rw[←hl,(h3 hq).2];rfl
  |false=>
   rw[hq]at e2
   simp only[Bool.false_eq_true,if_false,Value.slice.injEq]at e2
   rw[hA]at e2
   cases e2.1
 unfold nilC at h
 split at h
 all_goals first
  |(cases h;done)
  |skip
 all_goals
  rename_i he
  obtain rfl:cy= .slice none 0 0:=hy
  cases h
 ·obtain⟨A,cap,rfl,hA⟩:=hlst hx
  refine⟨_,(run_slice_nil he ox oy A _ cap κ.w).1,?_⟩
  cases A with
  |none=>exact .inl ⟨hA rfl,rfl⟩
  |some _=>exact .inr ⟨trivial,rfl⟩
 ·obtain⟨A,cap,rfl,hA⟩:=hrow hx
  refine⟨_,(run_slice_nil he ox oy A _ cap κ.w).1,?_⟩
  cases A with
  |none=>exact .inl ⟨hA rfl,rfl⟩
  |some _=>exact .inr ⟨trivial,rfl⟩
 ·obtain rfl:cx= .slice none 0 0:=hx
  exact⟨_,(run_slice_nil he ox oy none 0 0 κ.w).1,.inl ⟨trivial,rfl⟩⟩
 ·obtain⟨A,cap,rfl,hA⟩:=hlst hx
  refine⟨_,(run_slice_nil he ox oy A _ cap κ.w).2,?_⟩
  cases A with
  |none=>exact .inl ⟨hA rfl,rfl⟩
  |some _=>exact .inr ⟨trivial,rfl⟩
 ·obtain⟨A,cap,rfl,hA⟩:=hrow hx
  refine⟨_,(run_slice_nil he ox oy A _ cap κ.w).2,?_⟩
  cases A with
  |none=>exact .inl ⟨hA rfl,rfl⟩
  |some _=>exact .inr ⟨trivial,rfl⟩
 ·obtain rfl:cx= .slice none 0 0:=hx
  exact⟨_,(run_slice_nil he ox oy none 0 0 κ.w).2,.inl ⟨trivial,rfl⟩⟩
theorem nilQ_sound{P:Program}{κ:Cx}{env:Env}{ρv:Operand→Value}(hc:Conc κ)(hρ:Rho κ env ρv){o:Oper}{q:Prop×Prop×Bool}(h:nilQ P env κ.H o.op=some q):
  (∀c,o.op≠ .defer c)∧ ∃b,(execOp ρv o).run P κ.w= .ok (.value (.bool b)) κ.w∧((q.1∧b=q.2.2)∨(q.2.1∧b= !q.2.2)):=by
 refine⟨fun c e=>(by rw[e]at h;cases h),?_⟩
 unfold nilQ at h
 split at h
 ·rename_i op t x y yt ho
  obtain⟨b,h1,h2⟩:=nilC_sound (hρ.ev x) (hρ.ev y) hc h x y
  refine⟨b,?_,h2⟩
  unfold execOp
  rw[ho]
  show Sem.run P (do let c←(do eqGuard op t x y (ρv x) (ρv y);binOp op t (ρv x) (ρv y):Sem Value);pure (Next.value c)) κ.w=_
  rw[Sem.run_bind,h1]
  rfl
 ·cases h
section
variable {P:Program} {nt m:Nat} {R:Exit→St→Prop} {k:List It} {st:St} {o:Oper} {rest:List Oper} {all:Array Oper}
theorem VC.nilq{q:Prop×Prop×Bool}(hd:dstOk nt o.dst)(hw:o.guard=none∨ ∃j t,o.guard=some (j,t)∧guardV all j st.env= .bool t)(he:nilQ P st.env st.H o.op=some q)
  (h1:q.1→VC P nt m R (.ops rest all::k) ⟨eput st.env o.dst (.bool q.2.2),st.H⟩) (h2:q.2.1→VC P nt m R (.ops rest all::k) ⟨eput st.env o.dst (.bool (!q.2.2)),st.H⟩):
  VC P nt m R (.ops (o::rest) all::k) st:=by
 intro F E a w hF hE hg
 obtain⟨κ,rfl,g2,g3,g4,g5,g6,g7,g8⟩:=hg.rho
 have hwt:Region.wanted o (yielded all a.tmps)=true:=by
  rcases hw with hw|⟨j,t,hw,ht⟩
  ·simp[Region.wanted,hw]
  ·simp[Region.wanted,hw,yielded_of g6 ht]
 simp only[post,wpListIn,hwt,if_true]
 obtain⟨hdf,b,r1,r2⟩:=nilQ_sound g3 g8 (by rw[g2];exact he)
 refine oper_of hF.1 hdf (.inl r1) ?_
 have hp: ∀b,Good nt E ⟨eput st.env o.dst (.bool b),st.H⟩ (a.put o.dst (.bool b)) κ.w:=fun b=>by
  have:=Good.put (v:= .bool b) (c:= .bool b) (dst:=o.dst) g2 g3 g4 g5 g6 g7 g3 (.refl κ) rfl (fun d e=>by rw[e]at hd;exact hd)
  rw[g2]at this
  exact this
 rcases r2 with⟨q1,rfl⟩|⟨q1,rfl⟩
 ·exact h1 q1 F E _ _ hF hE (hp _)
 ·exact h2 q1 F E _ _ hF hE (hp _)
end
open Go.Maps
def mapTy(P:Program)(t:TypeId):Option IntKind:=match P.underlying t with
 |some (.map kt e)=>match P.underlying kt,P.underlying e,(P.info? e).bind (·.zero)with
  |some (.int .i64),some (.int q),some (.int q' 0)=>if q=q' then some q else none
  |_,_,_=>none
 |_=>none
theorem mapTy_ok{P:Program}{t:TypeId}{q:IntKind}(h:mapTy P t=some q): ∃kt e,P.underlying t=some (.map kt e)∧P.underlying kt=some (.int .i64)∧P.underlying e=some (.int q)∧ ∀w0:World,(zeroValue e).run P w0= .ok (.int q 0) w0:=by
 unfold mapTy at h
 split at h
 ·rename_i kt e hu
  split at h
  ·rename_i q0 q' h1 h2 h3
   split at h
   ·rename_i e1
    subst e1
    cases h
    obtain⟨i,i1,i2⟩:=Option.bind_eq_some_iff.1 h3
    exact⟨kt,e,hu,h1,h2,fun w0=>by simp[zeroValue,typeInfo,Sem.run_bind,Result.andThen,i1,i2]⟩
   ·cases h
  ·cases h
 ·cases h
section
variable {P:Program} {nt m:Nat} {R:Exit→St→Prop} {st:St}
theorem VC.makeMap{o:Oper}{rest:List Oper}{all:Array Oper}{k:List It}{t:TypeId}{q:IntKind}(hd:dstOk nt o.dst)(hw:o.guard=none∨ ∃j t,o.guard=some (j,t)∧guardV all j st.env= .bool t)
  (hop:o.op= .makeMap t none) (hu:mapTy P t=some q)
  (h: ∀g,VC P nt m R (.ops rest all::k) ⟨eput st.env o.dst (.mp g),st.H++[.mp P g t q 0 fun _=>none]⟩):VC P nt m R (.ops (o::rest) all::k) st:=by
 intro F E act w hF hE hg
 obtain⟨κ,rfl,h2,h3,h4,h5,h6,h7,h8⟩:=hg.rho
 have hwt:Region.wanted o (yielded all act.tmps)=true:=by
  rcases hw with hw|⟨j,t,hw,ht⟩
  ·simp[Region.wanted,hw]
  ·simp[Region.wanted,hw,yielded_of h6 ht]
 simp only[post,wpListIn,hwt,if_true]
 obtain⟨kt,e,u1,u2,u3,u4⟩:=mapTy_ok hu
 have hp:=h3.push (w':=κ.w.alloc (.map #[] 0)) { blk:=κ.w.heap.size,cap:=0,isNil:=false } (.mp P κ.w.heap.size t q 0 fun _=>none) rfl rfl rfl (by simp) (fun g hg=>Below.heap_alloc _ _ _ hg)
  (fun _=>⟨Nat.le_refl _,by simp⟩) (fun hk=>⟨by simp,by simp,⟨kt,e,.map [],u1,u2,u3,u4,World.ownsMap_made κ.w P kt (plainElem P e),fun x _ _=>⟨rfl,rfl⟩⟩,fun o hs=>by
   have:=h3.swf _ _ hs
   simp at this⟩)
 refine oper_of hF.1 (fun c e=>by rw[hop]at e;cases e) (c:= .map (some κ.w.heap.size)) (w':=κ.w.alloc (.map #[] 0)) (.inl ?_) ?_
 ·unfold execOp
  rw[hop]
  have:=run_makeMap (P:=P) t κ.w
  simp[this]
 ·refine h κ.w.heap.size F E _ _ hF hE ?_
  rw[←h2]
  exact .put h2 h3 h4 h5 h6 h7 hp.1 hp.2 rfl (fun d e=>by have e':o.dst=some d:=e;rw[e']at hd;exact hd)
theorem push_raw{κ:Cx}(hc:Conc κ)(k:Rk): ∃κ':Cx,κ'.w=κ.w.alloc k.obj∧Conc κ'∧StepM κ κ'∧κ'.H=κ.H++[.raw κ.w.heap.size k]:=by
 have hp:=hc.push (w':=κ.w.alloc k.obj) { blk:=κ.w.heap.size,cap:=0,isNil:=false } (.raw κ.w.heap.size k) rfl rfl rfl (by simp) (fun g hg=>Below.heap_alloc _ _ _ hg)
  (fun _=>⟨Nat.le_refl _,by simp⟩) (fun hk=>⟨by simp,by simp,heap_alloc_new _ _,fun o hs=>by
   have:=hc.swf _ _ hs
   simp at this⟩)
 exact⟨_,rfl,hp.1,hp.2,rfl⟩
theorem VC.makeMapR{o:Oper}{rest:List Oper}{all:Array Oper}{k:List It}{t:TypeId}(hd:dstOk nt o.dst)(hw:o.guard=none∨ ∃j t,o.guard=some (j,t)∧guardV all j st.env= .bool t)
  (hop:o.op= .makeMap t none)
  (h: ∀g,VC P nt m R (.ops rest all::k) ⟨eput st.env o.dst (.mp g),st.H++[.raw g (.map [])]⟩):VC P nt m R (.ops (o::rest) all::k) st:=by
 intro F E act w hF hE hg
 obtain⟨κ,rfl,h2,h3,h4,h5,h6,h7,h8⟩:=hg.rho
 have hwt:Region.wanted o (yielded all act.tmps)=true:=by
  rcases hw with hw|⟨j,t,hw,ht⟩
  ·simp[Region.wanted,hw]
  ·simp[Region.wanted,hw,yielded_of h6 ht]
 simp only[post,wpListIn,hwt,if_true]
 obtain⟨κ',q1,q2,q3,q4⟩:=push_raw h3 (.map [])
 refine oper_of hF.1 (fun c e=>by rw[hop]at e;cases e) (c:= .map (some κ.w.heap.size)) (w':=κ'.w) (.inl ?_) ?_
 ·unfold execOp
  rw[hop,q1]
  have:=run_makeMap (P:=P) t κ.w
  simp[this,Rk.obj,mkEs]
 ·refine h κ.w.heap.size F E _ _ hF hE ?_
  rw[←h2,← q4]
  exact .put h2 h3 h4 h5 h6 h7 q2 q3 rfl (fun d e=>by have e':o.dst=some d:=e;rw[e']at hd;exact hd)
theorem VC.rangeM{o:Oper}{rest:List Oper}{all:Array Oper}{k:List It}{t:TypeId}{x:Operand}{g n:Nat}(hd:dstOk nt o.dst)(hw:o.guard=none∨ ∃j t,o.guard=some (j,t)∧guardV all j st.env= .bool t)
  (hop:o.op= .range t x) (hr:rngD P st.H t (evA st.env x)=some (g,n))
  (h: ∀r,VC P nt m R (.ops rest all::k) ⟨eput st.env o.dst (.val (.pointer (some ⟨r,0,none⟩))),st.H++[.raw r (.it g n [] n)]⟩):VC P nt m R (.ops (o::rest) all::k) st:=by
 intro F E act w hF hE hg
 obtain⟨κ,rfl,h2,h3,h4,h5,h6,h7,h8⟩:=hg.rho
 have hwt:Region.wanted o (yielded all act.tmps)=true:=by
  rcases hw with hw|⟨j,t,hw,ht⟩
  ·simp[Region.wanted,hw]
  ·simp[Region.wanted,hw,yielded_of h6 ht]
 simp only[post,wpListIn,hwt,if_true]
 have hev:=h8.ev x
 unfold rngD at hr
 split at hr
 ·rename_i g' hx
  rw[hx]at hev
  split at hr
  ·rename_i b l n' hf ht
   simp only[Option.some.injEq,Prod.mk.injEq]at hr
   obtain⟨rfl,rfl⟩:=hr
   obtain⟨κ',q1,q2,q3,q4⟩:=push_raw h3 (.it g' l.length [] l.length)
   have hev:act.eval x= .map (some g'):=hev
   have hrun:=run_rngR (P:=P) ht (raw_at h3 (by rw[h2];exact hf))
   refine oper_of hF.1 (fun c e=>by rw[hop]at e;cases e) (c:= .pointer (some ⟨κ.w.heap.size,0,none⟩)) (w':=κ'.w) (.inl ?_) ?_
   ·unfold execOp
    rw[hop,q1]
    simp[hev,hrun]
   ·refine h κ.w.heap.size F E _ _ hF hE ?_
    rw[←h2,← q4]
    exact .put h2 h3 h4 h5 h6 h7 q2 q3 rfl (fun d e=>by have e':o.dst=some d:=e;rw[e']at hd;exact hd)
  ·cases hr
 ·cases hr
theorem VC.next{o:Oper}{rest:List Oper}{all:Array Oper}{k:List It}{x:Operand}{d:NxD}(hd:dstOk nt o.dst)(hw:o.guard=none∨ ∃j t,o.guard=some (j,t)∧guardV all j st.env= .bool t)
  (hop:o.op= .next x false) (hr:nxtD st.H (evA st.env x)=some d) (hs:d.since=d.l.length∧d.last=d.l.length)
  (h0:(∀j,j<d.l.length→j∈d.seen)→VC P nt m R (.ops rest all::k) ⟨eput st.env o.dst (.tup [.bool false]),st.H⟩)
  (h: ∀j e,d.l[j]? =some e→j∉d.seen→VC P nt m R (.ops rest all::k) ⟨eput st.env o.dst (.tup [.bool true,.agg (e.1.map (AV.int .i64)),.int .i64 e.2]),st.H.set d.b (.raw d.r (.it d.g d.since (d.seen++[j]) d.last))⟩):VC P nt m R (.ops (o::rest) all::k) st:=by
 intro F E act w hF hE hg
 obtain⟨κ,rfl,h2,h3,h4,h5,h6,h7,h8⟩:=hg.rho
 have hwt:Region.wanted o (yielded all act.tmps)=true:=by
  rcases hw with hw|⟨j,t,hw,ht⟩
  ·simp[Region.wanted,hw]
  ·simp[Region.wanted,hw,yielded_of h6 ht]
 simp only[post,wpListIn,hwt,if_true]
 have hev:=h8.ev x
 unfold nxtD at hr
 split at hr
 ·rename_i r hx
  rw[hx]at hev
  split at hr
  ·rename_i b g since seen last hf
   split at hr
   ·rename_i b' l hf'
    simp only[Option.some.injEq]at hr
    subst hr
    obtain⟨e1,e2⟩:=hs
    simp only at e1 e2 h h0
    subst e1
    subst e2
    have hev:act.eval x= .pointer (some ⟨r,0,none⟩):=hev
    have hb:=findR_ok hf
    rcases run_nxtR (P:=P) (ty:=o.type) (raw_at h3 (by rw[h2];exact hf)) (raw_at h3 (by rw[h2];exact hf'))with⟨q1,q2⟩|⟨j,e,q1,q2,w1,q3,q4⟩
    ·refine oper_of hF.1 (fun c e=>by rw[hop]at e;cases e) (c:= .tuple #[.bool false]) (w':=κ.w) (.inl ?_) ?_
     ·unfold execOp
      rw[hop]
      simp[hev,q2]
     ·refine h0 q1 F E _ _ hF hE ?_
      rw[←h2]
      exact .put h2 h3 h4 h5 h6 h7 h3 (.refl _) ⟨_,rfl,_,_,rfl,rfl,rfl⟩ (fun d e=>by have e':o.dst=some d:=e;rw[e']at hd;exact hd)
    ·obtain⟨κ',r1,r2,r3,r4⟩: ∃κ':Cx,κ'.w=Go.ChangeMaps.setBlock w1 r (Rk.it g l.length (seen++[j]) l.length).obj∧Conc κ'∧StepM κ κ'∧κ'.H=κ.H.set b (.raw r (.it g l.length (seen++[j]) l.length)):=by
      rcases q3 with rfl|rfl
      ·exact setRaw h3 (by rw[h2];exact hb) _
      ·obtain⟨g1,g2⟩:=h3.same (sameDrew κ.w)
       obtain⟨κ',r1,r2,r3,r4⟩:=setRaw g1 (k:= .it g l.length seen l.length) (b:=b) (g:=r) (by show κ.H[b]? =_;rw[h2];exact hb) (.it g l.length (seen++[j]) l.length)
       exact⟨κ',r1,r2,g2.trans r3,r4⟩
     refine oper_of hF.1 (fun c e=>by rw[hop]at e;cases e) (c:= .tuple #[.bool true,kV e.1,.int .i64 e.2]) (w':=κ'.w) (.inl ?_) ?_
     ·unfold execOp
      rw[hop,r1]
      simp[hev,q4]
     ·refine h j e q1 q2 F E _ _ hF hE ?_
      rw[←h2,← r4]
      exact .put h2 h3 h4 h5 h6 h7 r2 r3 ⟨_,rfl,_,_,rfl,rfl,_,_,rfl,⟨_,rfl,VL_ints _⟩,_,_,rfl,rfl,rfl⟩ (fun d e=>by have e':o.dst=some d:=e;rw[e']at hd;exact hd)
   ·cases hr
  ·cases hr
 ·cases hr
end
end Go.Fl
namespace Go.Fl
open Go.RowKit
structure COp where
 dst:Option Nat
 op:Op
 gd:Option (Option Nat×Bool)
def copOf(all:Array Oper)(o:Oper):COp:=⟨o.dst,o.op,o.guard.map fun g=>((all[g.1]?).bind (·.dst),g.2)⟩
def cops(all:Array Oper):List COp:=all.toList.map (copOf all)
inductive Iv where
 |code (c:Code)
 |inBlock (id:Nat)
 |back (I:St→Prop)
 |ops (l:List COp)
def Rel:List Iv→List It→Prop
 |[],k=>k=[]
 | .code c::k,k'=> ∃r,k'= .code c::r∧Rel k r
 | .inBlock id::k,k'=> ∃r,k'= .inBlock id::r∧Rel k r
 | .back I::k,k'=> ∃r,k'= .back I::r∧Rel k r
 | .ops l::k,k'=> ∃r ol all,k'= .ops ol all::r∧l=ol.map (copOf all)∧Rel k r
def CV(P:Program)(nt m:Nat)(R:Exit→St→Prop)(k:List Iv)(st:St):Prop:= ∀k',Rel k k'→VC P nt m R k' st
def csz:Code→Nat
 | .seq a b=>csz a+csz b+1
 | .cond _ a b=>csz a+csz b+1
 | .block _ c=>csz c+2
 | .region _ ops _=>2*ops.size+2
 |_=>1
def COp.sz(o:COp):Nat:=if o.gd.isSome then 2 else 1
def osz:List COp→Nat
 |[]=>0
 |o::l=>o.sz+osz l
def isz:List Iv→Nat
 |[]=>0
 | .code c::k=>csz c+isz k
 | .inBlock _::k=>1+isz k
 | .back _::k=>1+isz k
 | .ops l::k=>1+osz l+isz k
theorem osz_le: ∀l:List COp,osz l≤2*l.length
 |[]=>by simp[osz]
 |o::l=>by have:=osz_le l;simp only[osz,length_cons,COp.sz];split<;>omega
def exitV(id:Nat):List Iv→Option (List Iv)
 |[]=>none
 | .inBlock id'::k=>if id=id' then some k else exitV id k
 |_::k=>exitV id k
theorem exitV_sz{id:Nat}: ∀{k k':List Iv},exitV id k=some k'→isz k'≤isz k
 |[],_,h=>by cases h
 | .inBlock id'::k,k',h=>by
  simp only[exitV]at h
  split at h
  ·cases h;simp[isz]
  ·have:=exitV_sz h;simp[isz];omega
 | .code c::k,k',h=>by have:=exitV_sz (k:=k) h;simp[isz];omega
 | .back c::k,k',h=>by have:=exitV_sz (k:=k) h;simp[isz];omega
 | .ops c::k,k',h=>by have:=exitV_sz (k:=k) h;simp[isz];omega
theorem exitV_rel{id:Nat}: ∀{k k':List Iv} {r:List It},exitV id k=some k'→Rel k r→ ∃r',exitK id r=some r'∧Rel k' r'
 |[],_,_,h,_=>by cases h
 | .inBlock id'::k,k',r,h,⟨r',e,hr⟩=>by
  subst e
  simp only[exitV]at h
  simp only[exitK]
  split at h
  ·rename_i e;cases h;rw[if_pos e];exact⟨r',rfl,hr⟩
  ·rename_i e;rw[if_neg e];exact exitV_rel h hr
 | .code c::k,k',r,h,⟨r',e,hr⟩=>by subst e;simp only[exitK];exact exitV_rel (k:=k) (r:=r') h hr
 | .back c::k,k',r,h,⟨r',e,hr⟩=>by subst e;simp only[exitK];exact exitV_rel (k:=k) (r:=r') h hr
 | .ops c::k,k',r,h,⟨r',ol,all,e,_,hr⟩=>by subst e;simp only[exitK];exact exitV_rel (k:=k) (r:=r') h hr
theorem exitV_none{id:Nat}: ∀{k:List Iv} {r:List It},exitV id k=none→Rel k r→exitK id r=none
 |[],_,_,hr=>by rw[show _=[]from hr];rfl
 | .inBlock id'::k,r,h,⟨r',e,hr⟩=>by
  subst e
  simp only[exitV]at h
  simp only[exitK]
  split at h
  ·cases h
  ·rename_i e;rw[if_neg e];exact exitV_none h hr
 | .code c::k,r,h,⟨r',e,hr⟩=>by subst e;simp only[exitK];exact exitV_none (k:=k) (r:=r') h hr
 | .back c::k,r,h,⟨r',e,hr⟩=>by subst e;simp only[exitK];exact exitV_none (k:=k) (r:=r') h hr
 | .ops c::k,r,h,⟨r',ol,all,e,_,hr⟩=>by subst e;simp only[exitK];exact exitV_none (k:=k) (r:=r') h hr
def isCall:Op→Bool
 | .call { callee:= .value _,.. }=>true
 | .call { callee:= .invoke _ _,.. }=>true
 | .makeMap _ none=>true
 | .range _ _=>true
 | .next _ false=>true
 |_=>false
section
variable (P:Program) (nt m:Nat) (R:Exit→St→Prop)
def vc : List Iv → St → Prop
  | [], st => R .normal st
  | .inBlock _ :: k, st => vc k st
  | .back I :: _, st => I st
  | .ops [] :: k, st => vc k st
  | .ops (⟨dst, op, none⟩ :: rest) :: k, st =>
    match op with
    | .call { callee := .value f, args, .. } => dstOk nt dst ∧ match evA st.env f with
      | .fn g caps => HCH P g (args.toList.map (evA st.env) ++ caps) st.H fun r H' => vc (.ops rest :: k) ⟨eput st.env dst r, H'⟩
      | .bf g fs => HCH P g (fs ++ args.toList.map (evA st.env)) st.H fun r H' => vc (.ops rest :: k) ⟨eput st.env dst r, H'⟩
      | .yld l => HCY P l (args.toList.map (evA st.env)) st.H fun r H' => vc (.ops rest :: k) ⟨eput st.env dst r, H'⟩
      | _ => False
    | .call { callee := .invoke f name, args, .. } => dstOk nt dst ∧ match evA st.env f with
      | .ifc t cs => match mthT P t name with
        | some g => HCH P g (cs ++ args.toList.map (evA st.env)) st.H fun r H' => vc (.ops rest :: k) ⟨eput st.env dst r, H'⟩
        | none => False
      | _ => False
    | .makeMap t none => dstOk nt dst ∧ match mapTy P t with
      | some q => ∀ g, vc (.ops rest :: k) ⟨eput st.env dst (.mp g), st.H ++ [.mp P g t q 0 fun _ => none]⟩
      | none => ∀ g, vc (.ops rest :: k) ⟨eput st.env dst (.mp g), st.H ++ [.raw g (.map [])]⟩
    | .range t x => dstOk nt dst ∧ match rngD P st.H t (evA st.env x) with
      | some gn => ∀ r, vc (.ops rest :: k) ⟨eput st.env dst (.val (.pointer (some ⟨r, 0, none⟩))), st.H ++ [.raw r (.it gn.1 gn.2 [] gn.2)]⟩
      | none => False
    | .next x false => dstOk nt dst ∧ match nxtD st.H (evA st.env x) with
      | some d => (d.since = d.l.length ∧ d.last = d.l.length) ∧ ((∀ j, j < d.l.length → j ∈ d.seen) → vc (.ops rest :: k) ⟨eput st.env dst (.tup [.bool false]), st.H⟩) ∧
          ∀ j e, d.l[j]? = some e → j ∉ d.seen → vc (.ops rest :: k) ⟨eput st.env dst (.tup [.bool true, .agg (e.1.map (AV.int .i64)), .int .i64 e.2]), st.H.set d.b (.raw d.r (.it d.g d.since (d.seen ++ [j]) d.last))⟩
      | none => False
    | op => dstOk nt dst ∧ match evOp P st.env st.H op with
      | .ok p v H' => p ∧ vc (.ops rest :: k) ⟨eput st.env dst v, H'⟩
      | .bad => match nilQ P st.env st.H op with
        | some q => (q.1 → vc (.ops rest :: k) ⟨eput st.env dst (.bool q.2.2), st.H⟩) ∧ (q.2.1 → vc (.ops rest :: k) ⟨eput st.env dst (.bool (!q.2.2)), st.H⟩)
        | none => False
  | .ops (⟨dst, op, some (g, want)⟩ :: rest) :: k, st =>
    match (match g with | some d => eget st.env d | none => .any) with
    | .bool b => (b = want → vc (.ops (⟨dst, op, none⟩ :: rest) :: k) st) ∧ (b ≠ want → dstOk nt dst ∧ vc (.ops rest :: k) ⟨eput st.env dst (.tup []), st.H⟩)
    | .tup [] => dstOk nt dst ∧ vc (.ops rest :: k) ⟨eput st.env dst (.tup []), st.H⟩
    | _ => False
  | .code .skip :: k, st => vc k st
  | .code (.seq a b) :: k, st => vc (.code a :: .code b :: k) st
  | .code (.block id c) :: k, st => vc (.code c :: .inBlock id :: k) st
  | .code .ret :: _, st => R .ret st
  | .code (.exit id) :: k, st => match h : exitV id k with
    | some k' => vc k' st
    | none => R (.exit id) st
  | .code (.cond c a b) :: k, st => match evA st.env c with
    | .bool t => (t = true → vc (.code a :: k) st) ∧ (t = false → vc (.code b :: k) st)
    | _ => False
  | .code (.region _ ops false) :: k, st => vc (.ops (cops ops) :: k) st
  | .code c :: k, st => CV P nt m R (.code c :: k) st
termination_by k _ => isz k
decreasing_by
  all_goals simp_wf
  all_goals simp only [isz, osz, csz, COp.sz, Option.isSome, if_true, Bool.false_eq_true, if_false]
  all_goals first
    | omega
    | (have := exitV_sz h; omega)
    | (have h1 := osz_le (cops ops); have h2 : (cops ops).length = ops.size := by simp [cops]
       omega)
def vcQ(q:Option (Prop×Prop×Bool))(dst:Option Nat)(rest:List COp)(k:List Iv)(st:St):Prop:=
 match q with
 |some q=>(q.1→vc P nt m R (.ops rest::k) ⟨eput st.env dst (.bool q.2.2),st.H⟩)∧(q.2.1→vc P nt m R (.ops rest::k) ⟨eput st.env dst (.bool (!q.2.2)),st.H⟩)
 |none=>False
def vcResQ(r:Res)(op:Op)(dst:Option Nat)(rest:List COp)(k:List Iv)(st:St):Prop:=
 match r with
 | .ok p v H'=>p∧vc P nt m R (.ops rest::k) ⟨eput st.env dst v,H'⟩
 | .bad=>vcQ P nt m R (nilQ P st.env st.H op) dst rest k st
def vcRes(r:Res)(dst:Option Nat)(rest:List COp)(k:List Iv)(st:St):Prop:=
 match r with
 | .ok p v H'=>p∧vc P nt m R (.ops rest::k) ⟨eput st.env dst v,H'⟩
 | .bad=>False
def vcG(g:AV)(want:Bool)(dst:Option Nat)(op:Op)(rest:List COp)(k:List Iv)(st:St):Prop:=
 match g with
 | .bool b=>(b=want→vc P nt m R (.ops (⟨dst,op,none⟩::rest)::k) st)∧(b≠want→dstOk nt dst∧vc P nt m R (.ops rest::k) ⟨eput st.env dst (.tup []),st.H⟩)
 | .tup []=>dstOk nt dst∧vc P nt m R (.ops rest::k) ⟨eput st.env dst (.tup []),st.H⟩
 |_=>False
def vcIf(g:AV)(a b:Code)(k:List Iv)(st:St):Prop:=
 match g with
 | .bool t=>(t=true→vc P nt m R (.code a::k) st)∧(t=false→vc P nt m R (.code b::k) st)
 |_=>False
def vcC(g:FuncId)(args:List AV)(dst:Option Nat)(rest:List COp)(k:List Iv)(st:St):Prop:=
 HCH P g args st.H fun r H'=>vc P nt m R (.ops rest::k) ⟨eput st.env dst r,H'⟩
def vcY(l:Nat)(args:List AV)(dst:Option Nat)(rest:List COp)(k:List Iv)(st:St):Prop:=
 HCY P l args st.H fun r H'=>vc P nt m R (.ops rest::k) ⟨eput st.env dst r,H'⟩
def vcF(f:AV)(args:List AV)(dst:Option Nat)(rest:List COp)(k:List Iv)(st:St):Prop:=
 match f with
 | .fn g caps=>vcC P nt m R g (args++caps) dst rest k st
 | .bf g fs=>vcC P nt m R g (fs++args) dst rest k st
 | .yld l=>vcY P nt m R l args dst rest k st
 |_=>False
def vcI(f:AV)(name:String)(args:List AV)(dst:Option Nat)(rest:List COp)(k:List Iv)(st:St):Prop:=
 match f with
 | .ifc t cs=>match mthT P t name with
  |some g=>vcC P nt m R g (cs++args) dst rest k st
  |none=>False
 |_=>False
def vcM(t:TypeId)(q:Option IntKind)(dst:Option Nat)(rest:List COp)(k:List Iv)(st:St):Prop:=match q with
 |some q=> ∀g,vc P nt m R (.ops rest::k) ⟨eput st.env dst (.mp g),st.H++[.mp P g t q 0 fun _=>none]⟩
 |none=> ∀g,vc P nt m R (.ops rest::k) ⟨eput st.env dst (.mp g),st.H++[.raw g (.map [])]⟩
def vcRg(q:Option (Nat×Nat))(dst:Option Nat)(rest:List COp)(k:List Iv)(st:St):Prop:=match q with
 |some gn=> ∀r,vc P nt m R (.ops rest::k) ⟨eput st.env dst (.val (.pointer (some ⟨r,0,none⟩))),st.H++[.raw r (.it gn.1 gn.2 [] gn.2)]⟩
 |none=>False
def vcNx(q:Option NxD)(dst:Option Nat)(rest:List COp)(k:List Iv)(st:St):Prop:=match q with
 |some d=>(d.since=d.l.length∧d.last=d.l.length)∧((∀j,j<d.l.length→j∈d.seen)→vc P nt m R (.ops rest::k) ⟨eput st.env dst (.tup [.bool false]),st.H⟩)∧
   ∀j e,d.l[j]? =some e→j∉d.seen→vc P nt m R (.ops rest::k) ⟨eput st.env dst (.tup [.bool true,.agg (e.1.map (AV.int .i64)),.int .i64 e.2]),st.H.set d.b (.raw d.r (.it d.g d.since (d.seen++[j]) d.last))⟩
 |none=>False
def vcX(id:Nat)(o:Option (List Iv))(st:St):Prop:=match o with|some k=>vc P nt m R k st|none=>R (.exit id) st
variable {P nt m R}
variable {k:List Iv} {st:St} {dst:Option Nat} {rest:List COp}
theorem vc_nil:vc P nt m R [] st=R .normal st:=by rw[vc]
theorem vc_inBlock{id:Nat}:vc P nt m R (.inBlock id::k) st=vc P nt m R k st:=by rw[vc]
theorem vc_back{I:St→Prop}:vc P nt m R (.back I::k) st=I st:=by rw[vc]
theorem vc_nops:vc P nt m R (.ops []::k) st=vc P nt m R k st:=by rw[vc]
theorem vc_skip:vc P nt m R (.code .skip::k) st=vc P nt m R k st:=by rw[vc]
theorem vc_seq{a b:Code}:vc P nt m R (.code (.seq a b)::k) st=vc P nt m R (.code a:: .code b::k) st:=by rw[vc]
theorem vc_block{id:Nat}{c:Code}:vc P nt m R (.code (.block id c)::k) st=vc P nt m R (.code c:: .inBlock id::k) st:=by rw[vc]
theorem vc_ret:vc P nt m R (.code .ret::k) st=R .ret st:=by rw[vc]
theorem vc_exit{id:Nat}:vc P nt m R (.code (.exit id)::k) st=vcX P nt m R id (exitV id k) st:=by
 rw[vc];unfold vcX;cases exitV id k<;>rfl
theorem vc_cond{c:Operand}{a b:Code}:vc P nt m R (.code (.cond c a b)::k) st=vcIf P nt m R (evA st.env c) a b k st:=by rw[vc];rfl
theorem vc_region{id:Nat}{ops:Array Oper}:vc P nt m R (.code (.region id ops false)::k) st=vc P nt m R (.ops (cops ops)::k) st:=by rw[vc]
theorem vc_op{op:Op}(h:isCall op=false):vc P nt m R (.ops (⟨dst,op,none⟩::rest)::k) st=(dstOk nt dst∧vcResQ P nt m R (evOp P st.env st.H op) op dst rest k st):=by
 rw[vc]
 ·rfl
 ·intro f args ts e;subst e;simp[isCall]at h
 ·intro f name args ts e;subst e;simp[isCall]at h
 ·intro t e;subst e;simp[isCall]at h
 ·intro t x e;subst e;simp[isCall]at h
 ·intro x e;subst e;simp[isCall]at h
theorem vc_op0{op:Op}(h:isCall op=false)(hq:nilQ P st.env st.H op=none):vc P nt m R (.ops (⟨dst,op,none⟩::rest)::k) st=(dstOk nt dst∧vcRes P nt m R (evOp P st.env st.H op) dst rest k st):=by
 rw[vc_op h]
 unfold vcResQ vcRes
 cases evOp P st.env st.H op with
 |ok p v H'=>rfl
 |bad=>simp only[hq];rfl
theorem vc_call{f:Operand}{args:Array Operand}{ts:Array TypeId}:vc P nt m R (.ops (⟨dst,.call { callee:= .value f,args:=args,argTypes:=ts },none⟩::rest)::k) st=(dstOk nt dst∧vcF P nt m R (evA st.env f) (args.toList.map (evA st.env)) dst rest k st):=by
 rw[vc];unfold vcF vcC vcY;rfl
theorem vc_invoke{f:Operand}{name:String}{args:Array Operand}{ts:Array TypeId}:vc P nt m R (.ops (⟨dst,.call { callee:= .invoke f name,args:=args,argTypes:=ts },none⟩::rest)::k) st=(dstOk nt dst∧vcI P nt m R (evA st.env f) name (args.toList.map (evA st.env)) dst rest k st):=by
 rw[vc];unfold vcI vcC;rfl
theorem vc_makeMap{t:TypeId}:vc P nt m R (.ops (⟨dst,.makeMap t none,none⟩::rest)::k) st=(dstOk nt dst∧vcM P nt m R t (mapTy P t) dst rest k st):=by
 rw[vc];unfold vcM;rfl
theorem vc_range_map{t:TypeId}{x:Operand}:vc P nt m R (.ops (⟨dst,.range t x,none⟩::rest)::k) st=(dstOk nt dst∧vcRg P nt m R (rngD P st.H t (evA st.env x)) dst rest k st):=by
 rw[vc];unfold vcRg;rfl
theorem vc_next{x:Operand}:vc P nt m R (.ops (⟨dst,.next x false,none⟩::rest)::k) st=(dstOk nt dst∧vcNx P nt m R (nxtD st.H (evA st.env x)) dst rest k st):=by
 rw[vc];unfold vcNx;rfl
theorem vcRg_some{gn:Nat×Nat}(h: ∀r,vc P nt m R (.ops rest::k) ⟨eput st.env dst (.val (.pointer (some ⟨r,0,none⟩))),st.H++[.raw r (.it gn.1 gn.2 [] gn.2)]⟩):vcRg P nt m R (some gn) dst rest k st:=h
theorem vcMR{t:TypeId}(h: ∀g,vc P nt m R (.ops rest::k) ⟨eput st.env dst (.mp g),st.H++[.raw g (.map [])]⟩):vcM P nt m R t none dst rest k st:=h
theorem vcNx_some{d:NxD}(hs:d.since=d.l.length∧d.last=d.l.length)(h0:(∀j,j<d.l.length→j∈d.seen)→vc P nt m R (.ops rest::k) ⟨eput st.env dst (.tup [.bool false]),st.H⟩)
  (h: ∀j e,d.l[j]? =some e→j∉d.seen→vc P nt m R (.ops rest::k) ⟨eput st.env dst (.tup [.bool true,.agg (e.1.map (AV.int .i64)),.int .i64 e.2]),st.H.set d.b (.raw d.r (.it d.g d.since (d.seen++[j]) d.last))⟩):vcNx P nt m R (some d) dst rest k st:=⟨hs,h0,h⟩
theorem vcM_some{t:TypeId}{q:IntKind}(h: ∀g,vc P nt m R (.ops rest::k) ⟨eput st.env dst (.mp g),st.H++[.mp P g t q 0 fun _=>none]⟩):vcM P nt m R t (some q) dst rest k st:=h
theorem vc_guard{d:Nat}{want:Bool}{op:Op}:vc P nt m R (.ops (⟨dst,op,some (some d,want)⟩::rest)::k) st=vcG P nt m R (eget st.env d) want dst op rest k st:=by
 rw[vc];rfl
theorem vc_gd{g:Option Nat}{want:Bool}{op:Op}:vc P nt m R (.ops (⟨dst,op,some (g,want)⟩::rest)::k) st=vcG P nt m R (match g with|some d=>eget st.env d|none=> .any) want dst op rest k st:=by
 cases g<;>(rw[vc];rfl)
theorem vcRes_ok{p:Prop}{v:AV}{H':Heap}:vcRes P nt m R (.ok p v H') dst rest k st=(p∧vc P nt m R (.ops rest::k) ⟨eput st.env dst v,H'⟩):=rfl
theorem vcRes_bad:vcRes P nt m R .bad dst rest k st=False:=rfl
theorem vcResQ_ok{p:Prop}{v:AV}{H':Heap}{op:Op}:vcResQ P nt m R (.ok p v H') op dst rest k st=(p∧vc P nt m R (.ops rest::k) ⟨eput st.env dst v,H'⟩):=rfl
theorem vcResQ_bad{o:BinOp}{t:TypeId}{x y:Operand}{u:TypeId}:vcResQ P nt m R .bad (.binOp o t x y u) dst rest k st=vcQ P nt m R (nilC st.H o (elT P t) (evA st.env x) (evA st.env y)) dst rest k st:=rfl
theorem vcQ_none:vcQ P nt m R none dst rest k st=False:=rfl
theorem vcQ_split{p q:Prop}{b:Bool}(h1:p→vc P nt m R (.ops rest::k) ⟨eput st.env dst (.bool b),st.H⟩)(h2:q→vc P nt m R (.ops rest::k) ⟨eput st.env dst (.bool (!b)),st.H⟩):vcQ P nt m R (some (p,q,b)) dst rest k st:=⟨h1,h2⟩
theorem vcG_run{b:Bool}{op:Op}:vcG P nt m R (.bool b) b dst op rest k st=vc P nt m R (.ops (⟨dst,op,none⟩::rest)::k) st:=by simp[vcG]
theorem vcG_tf{op:Op}:vcG P nt m R (.bool true) false dst op rest k st=(dstOk nt dst∧vc P nt m R (.ops rest::k) ⟨eput st.env dst (.tup []),st.H⟩):=by simp[vcG]
theorem vcG_ft{op:Op}:vcG P nt m R (.bool false) true dst op rest k st=(dstOk nt dst∧vc P nt m R (.ops rest::k) ⟨eput st.env dst (.tup []),st.H⟩):=by simp[vcG]
theorem vcG_un{want:Bool}{op:Op}:vcG P nt m R (.tup []) want dst op rest k st=(dstOk nt dst∧vc P nt m R (.ops rest::k) ⟨eput st.env dst (.tup []),st.H⟩):=by simp[vcG]
theorem vcG_split{b want:Bool}{op:Op}(h1:b=true→vcG P nt m R (.bool true) want dst op rest k st)(h2:b=false→vcG P nt m R (.bool false) want dst op rest k st):vcG P nt m R (.bool b) want dst op rest k st:=by
 cases b
 ·exact h2 rfl
 ·exact h1 rfl
theorem vcIf_true{a b:Code}:vcIf P nt m R (.bool true) a b k st=vc P nt m R (.code a::k) st:=by simp[vcIf]
theorem vcIf_false{a b:Code}:vcIf P nt m R (.bool false) a b k st=vc P nt m R (.code b::k) st:=by simp[vcIf]
theorem vcIf_split{t:Bool}{a b:Code}(h1:t=true→vc P nt m R (.code a::k) st)(h2:t=false→vc P nt m R (.code b::k) st):vcIf P nt m R (.bool t) a b k st:=⟨h1,h2⟩
theorem vcF_fn{g:FuncId}{caps args:List AV}:vcF P nt m R (.fn g caps) args dst rest k st=vcC P nt m R g (args++caps) dst rest k st:=rfl
theorem vcF_bf{g:FuncId}{fs args:List AV}:vcF P nt m R (.bf g fs) args dst rest k st=vcC P nt m R g (fs++args) dst rest k st:=rfl
theorem vcF_yld{l:Nat}{args:List AV}:vcF P nt m R (.yld l) args dst rest k st=vcY P nt m R l args dst rest k st:=rfl
theorem vcX_some{id:Nat}{k':List Iv}:vcX P nt m R id (some k') st=vc P nt m R k' st:=rfl
theorem vcX_none{id:Nat}:vcX P nt m R id none st=R (.exit id) st:=rfl
theorem dstOk_some{d:Nat}:dstOk nt (some d)=(d<nt):=rfl
theorem dstOk_none:dstOk nt none=True:=rfl
theorem eput_some{env:Env}{d:Nat}{v:AV}:eput env (some d) v=(d,v)::env:=rfl
theorem eput_none{env:Env}{v:AV}:eput env none v=env:=rfl
theorem vc_sound: ∀(n:Nat) (k:List Iv) (st:St),isz k<n→vc P nt m R k st→CV P nt m R k st:=by
 intro n
 induction n with
 |zero=>intro k st h;omega
 |succ n ih=>
  intro k st hn hv k' hr
  match k,hn,hv,hr with
  |[],_,hv,hr=>subst hr;rw[vc]at hv;exact .nil hv
  | .inBlock id::k,hn,hv,⟨r,e,hq⟩=>subst e;rw[vc]at hv;exact .inBlock (ih k st (by simp[isz]at hn;omega) hv r hq)
  | .back I::k,hn,hv,⟨r,e,hq⟩=>subst e;rw[vc]at hv;exact .back hv
  | .ops []::k,hn,hv,⟨r,ol,all,e,hl,hq⟩=>
   subst e
   have:ol=[]:=by simpa using hl.symm
   subst this
   rw[vc]at hv
   exact .nops (ih k st (by simp[isz]at hn;omega) hv r hq)
  | .ops (⟨dst,op,gd⟩::rest)::k,hn,hv,⟨r,ol,all,e,hl,hq⟩=>
   subst e
   cases ol with
   |nil=>cases hl
   |cons o ol=>
    simp only[map_cons,List.cons.injEq]at hl
    obtain⟨ho,hl⟩:=hl
    simp only[copOf,COp.mk.injEq]at ho
    obtain⟨rfl,rfl,rfl⟩:=ho
    have run:(o.guard=none∨ ∃j t,o.guard=some (j,t)∧guardV all j st.env= .bool t)→vc P nt m R (.ops (⟨o.dst,o.op,none⟩::rest)::k) st→VC P nt m R (.ops (o::ol) all::r) st:=by
     intro hw hv
     by_cases hcl:isCall o.op=true
     ·have:(∃f args ts,o.op= .call { callee:= .value f,args:=args,argTypes:=ts })∨(∃f name args ts,o.op= .call { callee:= .invoke f name,args:=args,argTypes:=ts })∨(∃t,o.op= .makeMap t none)∨(∃t x,o.op= .range t x)∨ ∃x,o.op= .next x false:=by
       unfold isCall at hcl
       split at hcl
       ·exact .inl ⟨_,_,_,‹_›⟩
       ·exact .inr (.inl ⟨_,_,_,_,‹_›⟩)
       ·exact .inr (.inr (.inl ⟨_,‹_›⟩))
       ·exact .inr (.inr (.inr (.inl ⟨_,_,‹_›⟩)))
       ·exact .inr (.inr (.inr (.inr ⟨_,‹_›⟩)))
       ·cases hcl
      rcases this with⟨f,args,ts,hop⟩|⟨f,name,args,ts,hop⟩|⟨t,hop⟩|⟨t,x,hop⟩|⟨x,hop⟩
      rotate_left
      ·rw[hop,vc_invoke]at hv
       obtain⟨hd,hv⟩:=hv
       unfold vcI at hv
       split at hv
       ·rename_i t cs hf
        split at hv
        ·rename_i g hm
         refine VC.callI hd hw hop hf hm (HCH.mono hv fun v H' hq'=>?_)
         exact ih _ _ (by simp only[isz,osz,COp.sz]at hn ⊢;split at hn<;>omega) hq' _ ⟨r,ol,all,rfl,hl,hq⟩
        ·exact hv.elim
       ·exact hv.elim
      rotate_left
      ·rw[hop,vc_range_map]at hv
       obtain⟨hd,hv⟩:=hv
       unfold vcRg at hv
       split at hv
       ·rename_i gn hgn
        exact VC.rangeM hd hw hop hgn fun g=>ih _ _ (by simp only[isz,osz,COp.sz]at hn ⊢;split at hn<;>omega) (hv g) _ ⟨r,ol,all,rfl,hl,hq⟩
       ·exact hv.elim
      ·rw[hop,vc_next]at hv
       obtain⟨hd,hv⟩:=hv
       unfold vcNx at hv
       split at hv
       ·rename_i d hnd
        exact VC.next hd hw hop hnd hv.1 (fun h0=>ih _ _ (by simp only[isz,osz,COp.sz]at hn ⊢;split at hn<;>omega) (hv.2.1 h0) _ ⟨r,ol,all,rfl,hl,hq⟩)
         fun j e h1 h2=>ih _ _ (by simp only[isz,osz,COp.sz]at hn ⊢;split at hn<;>omega) (hv.2.2 j e h1 h2) _ ⟨r,ol,all,rfl,hl,hq⟩
       ·exact hv.elim
      rotate_left
      ·rw[hop,vc_makeMap]at hv
       obtain⟨hd,hv⟩:=hv
       unfold vcM at hv
       split at hv
       ·rename_i q hmq
        exact VC.makeMap hd hw hop hmq fun g=>ih _ _ (by simp only[isz,osz,COp.sz]at hn ⊢;split at hn<;>omega) (hv g) _ ⟨r,ol,all,rfl,hl,hq⟩
       ·exact VC.makeMapR hd hw hop fun g=>ih _ _ (by simp only[isz,osz,COp.sz]at hn ⊢;split at hn<;>omega) (hv g) _ ⟨r,ol,all,rfl,hl,hq⟩
      rw[hop,vc_call]at hv
      obtain⟨hd,hv⟩:=hv
      unfold vcF at hv
      split at hv
      ·rename_i g caps hg
       refine VC.call hd hw hop hg (HCH.mono hv fun v H' hq'=>?_)
       exact ih _ _ (by simp only[isz,osz,COp.sz]at hn ⊢;split at hn<;>omega) hq' _ ⟨r,ol,all,rfl,hl,hq⟩
      ·rename_i g fs hg
       refine VC.callB hd hw hop hg (HCH.mono hv fun v H' hq'=>?_)
       exact ih _ _ (by simp only[isz,osz,COp.sz]at hn ⊢;split at hn<;>omega) hq' _ ⟨r,ol,all,rfl,hl,hq⟩
      ·rename_i l hg
       refine VC.yield hd hw hop hg (HCY.mono hv fun v H' hq'=>?_)
       exact ih _ _ (by simp only[isz,osz,COp.sz]at hn ⊢;split at hn<;>omega) hq' _ ⟨r,ol,all,rfl,hl,hq⟩
      ·exact hv.elim
     ·rw[vc_op (by simpa using hcl)]at hv
      obtain⟨hd,hv⟩:=hv
      unfold vcResQ at hv
      split at hv
      ·rename_i p v H' he
       exact VC.run hd hw he hv.1 (ih _ _ (by simp only[isz,osz,COp.sz]at hn ⊢;split at hn<;>omega) hv.2 _ ⟨r,ol,all,rfl,hl,hq⟩)
      ·unfold vcQ at hv
       split at hv
       ·rename_i q hqq
        exact VC.nilq hd hw hqq (fun h1=>ih _ _ (by simp only[isz,osz,COp.sz]at hn ⊢;split at hn<;>omega) (hv.1 h1) _ ⟨r,ol,all,rfl,hl,hq⟩) (fun h2=>ih _ _ (by simp only[isz,osz,COp.sz]at hn ⊢;split at hn<;>omega) (hv.2 h2) _ ⟨r,ol,all,rfl,hl,hq⟩)
       ·exact hv.elim
    cases hg:o.guard with
    |none=>
     rw[hg]at hv
     exact run (.inl hg) hv
    |some g=>
     obtain⟨j,want⟩:=g
     rw[hg]at hv
     simp only[Option.map_some]at hv
     rw[vc_gd]at hv
     replace hv:vcG P nt m R (guardV all j st.env) want o.dst o.op rest k st:=hv
     unfold vcG at hv
     split at hv
     ·rename_i b hb
      by_cases hbw:b=want
      ·subst hbw
       exact run (.inr ⟨j,b,hg,hb⟩) (hv.1 rfl)
      ·obtain⟨hd,hv⟩:=hv.2 hbw
       exact VC.pass hd hg hb hbw (ih _ _ (by simp only[isz,osz,COp.sz]at hn ⊢;split at hn<;>omega) hv _ ⟨r,ol,all,rfl,hl,hq⟩)
     ·rename_i hb
      exact VC.passU hv.1 hg hb (ih _ _ (by simp only[isz,osz,COp.sz]at hn ⊢;split at hn<;>omega) hv.2 _ ⟨r,ol,all,rfl,hl,hq⟩)
     ·exact hv.elim
  | .code c::k,hn,hv,⟨r,e,hq⟩=>
   subst e
   cases c with
   |skip=>rw[vc]at hv;exact .skip (ih k st (by simp[isz,csz]at hn;omega) hv r hq)
   |seq a b=>rw[vc]at hv;exact .seq (ih _ st (by simp only[isz,csz]at hn ⊢;omega) hv _ ⟨_,rfl,_,rfl,hq⟩)
   |block id c=>rw[vc]at hv;exact .block (ih _ st (by simp only[isz,csz]at hn ⊢;omega) hv _ ⟨_,rfl,_,rfl,hq⟩)
   |ret=>rw[vc]at hv;exact .ret hv
   |exit id=>
    rw[vc_exit]at hv
    unfold vcX at hv
    split at hv
    ·rename_i k1 hk1
     obtain⟨r1,h1,h2⟩:=exitV_rel hk1 hq
     have:=exitV_sz hk1
     exact .exit h1 (ih k1 st (by simp only[isz,csz]at hn;omega) hv r1 h2)
    ·rename_i hk1
     exact .exit0 (exitV_none hk1 hq) hv
   |cond c a b=>
    rw[vc]at hv
    split at hv
    ·rename_i t ht
     exact .cond ht (fun e=>ih _ st (by simp only[isz,csz]at hn ⊢;omega) (hv.1 e) _ ⟨_,rfl,hq⟩) (fun e=>ih _ st (by simp only[isz,csz]at hn ⊢;omega) (hv.2 e) _ ⟨_,rfl,hq⟩)
    ·exact hv.elim
   |region id ops draw=>
    cases draw with
    |false=>
     rw[vc]at hv
     have h1:=osz_le (cops ops)
     have h2:(cops ops).length=ops.size:=by simp[cops]
     exact .region (ih _ st (by simp only[isz,csz]at hn ⊢;omega) hv _ ⟨_,ops.toList,ops,rfl,rfl,hq⟩)
    |true=>rw[vc]at hv;exact hv _ ⟨_,rfl,hq⟩;all_goals (intros;simp_all)
   |loop c=>rw[vc]at hv;exact hv _ ⟨_,rfl,hq⟩;all_goals (intros;simp_all)
   |rangeFunc=>rw[vc]at hv;exact hv _ ⟨_,rfl,hq⟩;all_goals (intros;simp_all)
   |scope=>rw[vc]at hv;exact hv _ ⟨_,rfl,hq⟩;all_goals (intros;simp_all)
   |label=>rw[vc]at hv;exact hv _ ⟨_,rfl,hq⟩;all_goals (intros;simp_all)
   |goto=>rw[vc]at hv;exact hv _ ⟨_,rfl,hq⟩;all_goals (intros;simp_all)
   |refuse=>rw[vc]at hv;exact hv _ ⟨_,rfl,hq⟩;all_goals (intros;simp_all)
theorem CV.run(h:vc P nt m R k st):CV P nt m R k st:=vc_sound _ k st (Nat.lt_succ_self _) h
end
theorem CV.of{P:Program}{nt m:Nat}{R:Exit→St→Prop}{k:List Iv}{st:St}(h:CV P nt m R k st): ∀k',Rel k k'→VC P nt m R k' st:=h
theorem CV.mk{P:Program}{nt m:Nat}{R:Exit→St→Prop}{k:List Iv}{st:St}(h: ∀k',Rel k k'→VC P nt m R k' st):CV P nt m R k st:=h
attribute [irreducible] vcG vcIf vcC vcY vcF vcX vcM vcRes vcResQ vcQ CV
end Go.Fl
namespace Go.Fl
theorem enters{P:Program}{f:FuncId}{fn:Func}(hf:P.funcs[f]? =some fn)(hn:(fn.name == "runtime.NumGoroutine")=false)(hb:fn.body.isSome=true): ∀args w,(callFunc f args).run P w= .ok (.enter f args) w:=by
 intro args w
 have h2:fn.body.isNone=false:=by cases h:fn.body<;>simp_all
 simp only[callFunc,Sem.run_bind,program,Sem.run,hf,Result.andThen,hn,h2,Bool.false_eq_true,if_false,Sem.run_pure]
theorem HCH.body{P:Program}{f:FuncId}{fn:Func}{c:Code}{args:List AV}{H:Heap}{Q:AV→Heap→Prop}(hf:P.funcs[f]? =some fn)(hname:(fn.name == "runtime.NumGoroutine")=false)(hb:fn.body=some c)(hn:args.length≤fn.ntmps)
  (h:CV P fn.ntmps H.length (Ret P fn.results.toList Q) [.code c] ⟨argEnv 0 args,H⟩):HCH P f args H Q:=
 HCH.of_body (enters hf hname (by rw[hb];rfl)) hf hb hn (h.of _ ⟨[],rfl,rfl⟩)
theorem Ret_ret{P:Program}{rs:List ResultVar}{Q:AV→Heap→Prop}{st:St}:Ret P rs Q .ret st=(∃vs,resA P st.env st.H rs=some vs∧Q (retOf vs) st.H):=by simp[Ret]
theorem Ret_normal{P:Program}{rs:List ResultVar}{Q:AV→Heap→Prop}{st:St}:Ret P rs Q .normal st=(∃vs,resA P st.env st.H rs=some vs∧Q (retOf vs) st.H):=by simp[Ret]
def retQ(Q:AV→Heap→Prop)(vs:Option (List AV))(H:Heap):Prop:=match vs with|some vs=>Q (retOf vs) H|none=>False
theorem Ret_ret'{P:Program}{rs:List ResultVar}{Q:AV→Heap→Prop}{st:St}:Ret P rs Q .ret st=retQ Q (resA P st.env st.H rs) st.H:=by
 rw[Ret_ret];unfold retQ;cases resA P st.env st.H rs<;>simp
theorem Ret_normal'{P:Program}{rs:List ResultVar}{Q:AV→Heap→Prop}{st:St}:Ret P rs Q .normal st=retQ Q (resA P st.env st.H rs) st.H:=by
 rw[Ret_normal];unfold retQ;cases resA P st.env st.H rs<;>simp
theorem retQ_some{Q:AV→Heap→Prop}{vs:List AV}{H:Heap}:retQ Q (some vs) H=Q (retOf vs) H:=rfl
theorem resA_nil{P:Program}{env:Env}{H:Heap}:resA P env H []=some []:=rfl
def consO(v:Option AV)(vs:Option (List AV)):Option (List AV):=match v,vs with|some v,some vs=>some (v::vs)|_,_=>none
theorem resA_cons{P:Program}{env:Env}{H:Heap}{r:ResultVar}{rs:List ResultVar}:resA P env H (r::rs)=consO (resA1 P env H r) (resA P env H rs):=by
 rw[resA];rfl
theorem consO_some{v:AV}{vs:List AV}:consO (some v) (some vs)=some (v::vs):=rfl
theorem eget_nil{t:Nat}:eget [] t= .any:=rfl
theorem eget_same{k:Nat}{v:AV}{r:Env}:eget ((k,v)::r) k=v:=by simp[eget]
theorem eget_cons{k:Nat}{v:AV}{r:Env}{t:Nat}:eget ((k,v)::r) t=if k=t then v else eget r t:=rfl
theorem vc_o_move{P:Program}{nt m:Nat}{R:Exit→St→Prop}{k:List Iv}{st:St}{dst:Option Nat}{rest:List COp}{x}:vc P nt m R (.ops (⟨dst,.move x,none⟩::rest)::k) st=(dstOk nt dst∧vcRes P nt m R (evOp P st.env st.H (.move x)) dst rest k st):=vc_op0 rfl rfl
theorem vc_o_assign{P:Program}{nt m:Nat}{R:Exit→St→Prop}{k:List Iv}{st:St}{dst:Option Nat}{rest:List COp}{x}:vc P nt m R (.ops (⟨dst,.assign x,none⟩::rest)::k) st=(dstOk nt dst∧vcRes P nt m R (evOp P st.env st.H (.assign x)) dst rest k st):=vc_op0 rfl rfl
theorem vc_o_pick{P:Program}{nt m:Nat}{R:Exit→St→Prop}{k:List Iv}{st:St}{dst:Option Nat}{rest:List COp}{c a b}:vc P nt m R (.ops (⟨dst,.pick c a b,none⟩::rest)::k) st=(dstOk nt dst∧vcRes P nt m R (evOp P st.env st.H (.pick c a b)) dst rest k st):=vc_op0 rfl rfl
theorem vc_o_alloc{P:Program}{nt m:Nat}{R:Exit→St→Prop}{k:List Iv}{st:St}{dst:Option Nat}{rest:List COp}{t}:vc P nt m R (.ops (⟨dst,.alloc t,none⟩::rest)::k) st=(dstOk nt dst∧vcRes P nt m R (evOp P st.env st.H (.alloc t)) dst rest k st):=vc_op0 rfl rfl
theorem vc_o_box{P:Program}{nt m:Nat}{R:Exit→St→Prop}{k:List Iv}{st:St}{dst:Option Nat}{rest:List COp}{t x}:vc P nt m R (.ops (⟨dst,.box t x,none⟩::rest)::k) st=(dstOk nt dst∧vcRes P nt m R (evOp P st.env st.H (.box t x)) dst rest k st):=vc_op0 rfl rfl
theorem vc_o_build{P:Program}{nt m:Nat}{R:Exit→St→Prop}{k:List Iv}{st:St}{dst:Option Nat}{rest:List COp}{t p}:vc P nt m R (.ops (⟨dst,.build t p,none⟩::rest)::k) st=(dstOk nt dst∧vcRes P nt m R (evOp P st.env st.H (.build t p)) dst rest k st):=vc_op0 rfl rfl
theorem vc_o_buildSlice{P:Program}{nt m:Nat}{R:Exit→St→Prop}{k:List Iv}{st:St}{dst:Option Nat}{rest:List COp}{t n p}:vc P nt m R (.ops (⟨dst,.buildSlice t n p,none⟩::rest)::k) st=(dstOk nt dst∧vcRes P nt m R (evOp P st.env st.H (.buildSlice t n p)) dst rest k st):=vc_op0 rfl rfl
theorem vc_o_load{P:Program}{nt m:Nat}{R:Exit→St→Prop}{k:List Iv}{st:St}{dst:Option Nat}{rest:List COp}{t x}:vc P nt m R (.ops (⟨dst,.load t x,none⟩::rest)::k) st=(dstOk nt dst∧vcRes P nt m R (evOp P st.env st.H (.load t x)) dst rest k st):=vc_op0 rfl rfl
theorem vc_o_store{P:Program}{nt m:Nat}{R:Exit→St→Prop}{k:List Iv}{st:St}{dst:Option Nat}{rest:List COp}{t a x}:vc P nt m R (.ops (⟨dst,.store t a x,none⟩::rest)::k) st=(dstOk nt dst∧vcRes P nt m R (evOp P st.env st.H (.store t a x)) dst rest k st):=vc_op0 rfl rfl
theorem vc_o_nilCheck{P:Program}{nt m:Nat}{R:Exit→St→Prop}{k:List Iv}{st:St}{dst:Option Nat}{rest:List COp}{x}:vc P nt m R (.ops (⟨dst,.nilCheck x,none⟩::rest)::k) st=(dstOk nt dst∧vcRes P nt m R (evOp P st.env st.H (.nilCheck x)) dst rest k st):=vc_op0 rfl rfl
theorem vc_o_binOp{P:Program}{nt m:Nat}{R:Exit→St→Prop}{k:List Iv}{st:St}{dst:Option Nat}{rest:List COp}{o t x y u}:vc P nt m R (.ops (⟨dst,.binOp o t x y u,none⟩::rest)::k) st=(dstOk nt dst∧vcResQ P nt m R (evOp P st.env st.H (.binOp o t x y u)) (.binOp o t x y u) dst rest k st):=vc_op rfl
theorem vc_o_unOp{P:Program}{nt m:Nat}{R:Exit→St→Prop}{k:List Iv}{st:St}{dst:Option Nat}{rest:List COp}{o t x}:vc P nt m R (.ops (⟨dst,.unOp o t x,none⟩::rest)::k) st=(dstOk nt dst∧vcRes P nt m R (evOp P st.env st.H (.unOp o t x)) dst rest k st):=vc_op0 rfl rfl
theorem vc_o_convert{P:Program}{nt m:Nat}{R:Exit→St→Prop}{k:List Iv}{st:St}{dst:Option Nat}{rest:List COp}{t u x}:vc P nt m R (.ops (⟨dst,.convert t u x,none⟩::rest)::k) st=(dstOk nt dst∧vcRes P nt m R (evOp P st.env st.H (.convert t u x)) dst rest k st):=vc_op0 rfl rfl
theorem vc_o_makeFunc{P:Program}{nt m:Nat}{R:Exit→St→Prop}{k:List Iv}{st:St}{dst:Option Nat}{rest:List COp}{f a c}:vc P nt m R (.ops (⟨dst,.makeFunc f a c,none⟩::rest)::k) st=(dstOk nt dst∧vcRes P nt m R (evOp P st.env st.H (.makeFunc f a c)) dst rest k st):=vc_op0 rfl rfl
theorem vc_o_makeSlice{P:Program}{nt m:Nat}{R:Exit→St→Prop}{k:List Iv}{st:St}{dst:Option Nat}{rest:List COp}{t x y}:vc P nt m R (.ops (⟨dst,.makeSlice t x y,none⟩::rest)::k) st=(dstOk nt dst∧vcRes P nt m R (evOp P st.env st.H (.makeSlice t x y)) dst rest k st):=vc_op0 rfl rfl
theorem vc_o_slice{P:Program}{nt m:Nat}{R:Exit→St→Prop}{k:List Iv}{st:St}{dst:Option Nat}{rest:List COp}{t x l h mx}:vc P nt m R (.ops (⟨dst,.slice t x l h mx,none⟩::rest)::k) st=(dstOk nt dst∧vcRes P nt m R (evOp P st.env st.H (.slice t x l h mx)) dst rest k st):=vc_op0 rfl rfl
theorem vc_o_fieldAddr{P:Program}{nt m:Nat}{R:Exit→St→Prop}{k:List Iv}{st:St}{dst:Option Nat}{rest:List COp}{t x f}:vc P nt m R (.ops (⟨dst,.fieldAddr t x f,none⟩::rest)::k) st=(dstOk nt dst∧vcRes P nt m R (evOp P st.env st.H (.fieldAddr t x f)) dst rest k st):=vc_op0 rfl rfl
theorem vc_o_field{P:Program}{nt m:Nat}{R:Exit→St→Prop}{k:List Iv}{st:St}{dst:Option Nat}{rest:List COp}{t x f}:vc P nt m R (.ops (⟨dst,.field t x f,none⟩::rest)::k) st=(dstOk nt dst∧vcRes P nt m R (evOp P st.env st.H (.field t x f)) dst rest k st):=vc_op0 rfl rfl
theorem vc_o_indexAddr{P:Program}{nt m:Nat}{R:Exit→St→Prop}{k:List Iv}{st:St}{dst:Option Nat}{rest:List COp}{t x i}:vc P nt m R (.ops (⟨dst,.indexAddr t x i,none⟩::rest)::k) st=(dstOk nt dst∧vcRes P nt m R (evOp P st.env st.H (.indexAddr t x i)) dst rest k st):=vc_op0 rfl rfl
theorem vc_o_index{P:Program}{nt m:Nat}{R:Exit→St→Prop}{k:List Iv}{st:St}{dst:Option Nat}{rest:List COp}{t x i}:vc P nt m R (.ops (⟨dst,.index t x i,none⟩::rest)::k) st=(dstOk nt dst∧vcRes P nt m R (evOp P st.env st.H (.index t x i)) dst rest k st):=vc_op0 rfl rfl
theorem vc_o_extract{P:Program}{nt m:Nat}{R:Exit→St→Prop}{k:List Iv}{st:St}{dst:Option Nat}{rest:List COp}{x i}:vc P nt m R (.ops (⟨dst,.extract x i,none⟩::rest)::k) st=(dstOk nt dst∧vcRes P nt m R (evOp P st.env st.H (.extract x i)) dst rest k st):=vc_op0 rfl rfl
theorem vc_o_entry{P:Program}{nt m:Nat}{R:Exit→St→Prop}{k:List Iv}{st:St}{dst:Option Nat}{rest:List COp}{kk}:vc P nt m R (.ops (⟨dst,.entry kk,none⟩::rest)::k) st=(dstOk nt dst∧vcRes P nt m R (evOp P st.env st.H (.entry kk)) dst rest k st):=vc_op0 rfl rfl
theorem vc_o_bi{P:Program}{nt m:Nat}{R:Exit→St→Prop}{k:List Iv}{st:St}{dst:Option Nat}{rest:List COp}{b a t}:vc P nt m R (.ops (⟨dst,.call { callee:= .builtin b,args:=a,argTypes:=t },none⟩::rest)::k) st=(dstOk nt dst∧vcRes P nt m R (evOp P st.env st.H (.call { callee:= .builtin b,args:=a,argTypes:=t })) dst rest k st):=vc_op0 rfl rfl
theorem vc_o_makeInterface{P:Program}{nt m:Nat}{R:Exit→St→Prop}{k:List Iv}{st:St}{dst:Option Nat}{rest:List COp}{t x}:vc P nt m R (.ops (⟨dst,.makeInterface t x,none⟩::rest)::k) st=(dstOk nt dst∧vcRes P nt m R (evOp P st.env st.H (.makeInterface t x)) dst rest k st):=vc_op0 rfl rfl
theorem argEnv0:argEnv 0 []=[]:=rfl
theorem argEnv1{a}:argEnv 0 [a]=[(0,a)]:=rfl
theorem argEnv2{a b}:argEnv 0 [a,b]=[(0,a),(1,b)]:=rfl
theorem argEnv3{a b c}:argEnv 0 [a,b,c]=[(0,a),(1,b),(2,c)]:=rfl
theorem argEnv4{a b c d}:argEnv 0 [a,b,c,d]=[(0,a),(1,b),(2,c),(3,d)]:=rfl
theorem argEnv5{a b c d e}:argEnv 0 [a,b,c,d,e]=[(0,a),(1,b),(2,c),(3,d),(4,e)]:=rfl
theorem argEnv6{a b c d e f}:argEnv 0 [a,b,c,d,e,f]=[(0,a),(1,b),(2,c),(3,d),(4,e),(5,f)]:=rfl
attribute [go_sem] litE emO emV List.isEmpty_nil List.isEmpty_cons vc_o_makeInterface vc_invoke vcI eqX eqY strS lenS idxS Leaf.str.injEq AV.lf.injEq vc_o_move vc_o_assign vc_o_pick vc_o_alloc vc_o_box vc_o_build vc_o_buildSlice vc_o_load vc_o_store vc_o_nilCheck vc_o_binOp vc_o_unOp vc_o_convert vc_o_makeFunc vc_o_makeSlice vc_o_slice vc_o_fieldAddr vc_o_field vc_o_indexAddr vc_o_index vc_o_extract vc_makeMap vc_o_bi argEnv0 argEnv1 argEnv2 argEnv3 argEnv4 argEnv5 argEnv6
attribute [go_sem] vc_nil vc_inBlock vc_back vc_nops vc_skip vc_seq vc_block vc_ret vc_exit vc_cond vc_region vc_call vc_guard vcRes_ok vcRes_bad vcResQ_ok vcResQ_bad vcQ_none nilC rowEls vcG_run vcG_tf vcG_ft vcG_un vcIf_true vcIf_false vcF_fn vcF_bf vcF_yld vcX_some vcX_none findM dstOk_some dstOk_none eput_some eput_none Ret_ret' Ret_normal' retQ_some resA_nil resA_cons consO_some resA1 retOf eget_nil eget_same eget_cons evA absV abs1 exitV cops copOf arU shU idxI gav gfind gtab binA cmpA arA ldA ofO ldC stA cellsA AV.oneA intA intO intOO idxA sliA srcA okSz okRow appA lenA evOp aggEq eqL setL fillA chunks AV.pure AV.pureL map_cons List.map_nil Option.map_some Option.map_none Option.bind_some Option.bind_none List.nil_append cons_append length_cons List.length_nil List.getElem?_cons_zero List.getElem?_cons_succ List.getElem?_nil List.drop_succ_cons List.drop_zero List.take_succ_cons List.take_zero List.set_cons_zero List.set_cons_succ List.head?_cons List.all_cons List.all_nil List.getElem?_toArray and_true true_and and_self ite_true ite_false
attribute [irreducible] retQ consO
open Go.RowKit
mutual
def belowV(n:Nat):AV→Bool
 | .agg cs=>belowL n cs
 | .tup cs=>belowL n cs
 | .fn _ cs=>belowL n cs
 | .bf _ cs=>belowL n cs
 | .row b _=>decide (b<n)
 | .lp b _=>decide (b<n)
 | .rp b _ _ _=>decide (b<n)
 | .rg b _ _=>decide (b<n)
 | .yld _=>true
 | .mp _=>true
 | .val _=>true
 | .pm _ _ _ _=>true
 | .alt _=>true
 | .lf _=>true
 | .ifc _ cs=>belowL n cs
 | .any=>true
 | .int _ _=>true
 | .bool _=>true
 | .nilS=>true
 | .nilP=>true
 | .nilF=>true
 | .lst _ _ _=>true
 | .pp _=>true
def belowL(n:Nat):List AV→Bool
 |[]=>true
 |v::vs=>belowV n v&&belowL n vs
end
section
variable {κ:Cx} {n:Nat}
theorem take_get{H:Heap}{b n:Nat}{x:Blk}(h:H[b]? =some x)(hb:b<n):(H.take n)[b]? =some x:=by
 rw[getElem?_take,if_pos hb];exact h
mutual
theorem V.trunc: ∀(v:AV) (c:Value),belowV n v=true→V κ v c→V { κ with H:=κ.H.take n } v c
 | .any,_,_,_=>trivial
 | .int _ _,_,_,hv=>hv
 | .bool _,_,_,hv=>hv
 | .nilS,_,_,hv=>hv
 | .nilP,_,_,hv=>hv
 | .nilF,_,_,hv=>hv
 | .agg cs,_,hb,⟨a,e,hl⟩=>⟨a,e,VL.trunc cs _ hb hl⟩
 | .tup cs,_,hb,⟨a,e,hl⟩=>⟨a,e,VL.trunc cs _ hb hl⟩
 | .lst f sz es,c,_,hv=>hv
 | .row b k,c,hb,⟨h0,el,sz,es,sl,h1,h2,h3⟩=>⟨h0,el,sz,es,sl,take_get h1 (by simpa[belowV]using hb),h2,h3⟩
 | .pp cs,c,_,hv=>hv
 | .lp b off,c,hb,⟨ty,cs,sl,h1,h2⟩=>⟨ty,cs,sl,take_get h1 (by simpa[belowV]using hb),h2⟩
 | .rp b k i off,c,hb,⟨h0,el,sz,es,sl,h1,h2,h3⟩=>⟨h0,el,sz,es,sl,take_get h1 (by simpa[belowV]using hb),h2,h3⟩
 | .rg b k g,c,hb,⟨h0,el,sz,es,g',h1,h2,h3⟩=>⟨h0,el,sz,es,g',take_get h1 (by simpa[belowV]using hb),h2,h3⟩
 | .fn _ caps,_,hb,⟨a,e,hl⟩=>⟨a,e,VL.trunc caps _ hb hl⟩
 | .bf _ caps,_,hb,⟨a,e,hl⟩=>⟨a,e,VL.trunc caps _ hb hl⟩
 | .yld _,_,_,hv=>hv
 | .mp _,_,_,hv=>hv
 | .val _,_,_,hv=>hv
 | .pm _ _ _ _,_,_,hv=>hv
 | .alt _,_,_,hv=>hv
 | .lf _,_,_,hv=>hv
 | .ifc _ caps,_,hb,⟨a,e,hl⟩=>⟨a,e,VL.trunc caps _ hb hl⟩
theorem VL.trunc: ∀(vs:List AV) (l:List Value),belowL n vs=true→VL κ vs l→VL { κ with H:=κ.H.take n } vs l
 |[],_,_,hv=>hv
 |v::vs,_,hb,⟨c,cs,e,h1,h2⟩=>by
  simp only[belowL,Bool.and_eq_true]at hb
  exact⟨c,cs,e,V.trunc v c hb.1 h1,VL.trunc vs cs hb.2 h2⟩
end
end
def belowE(n:Nat):Env→Prop
 |[]=>True
 |p::r=>belowV n p.2=true∧belowE n r
def belowB(n:Nat):Blk→Prop
 | .box _ cs _=>belowL n cs=true
 | .row _ _ es _=> ∀e∈es,belowL n e=true
 | .rg _ _ es _=> ∀e∈es,belowL n e=true
 | .loop _ _ _ _ _ env=>belowE n env
 | .mp _ _ _ _ _ _=>True
 | .raw _ _=>True
 | .lpx _=>True
 | .lpe _ _=>True
 | .gone=>True
def belowH(n:Nat):Heap→Prop
 |[]=>True
 |b::H=>belowB n b∧belowH n H
def subE(env:Env):Env→Prop
 |[]=>True
 |p::r=>eget env p.1=p.2∧subE env r
def pfx:Heap→Heap→Prop
 |[],_=>True
 |a::as,b::bs=>a=b∧pfx as bs
 |_::_,[]=>False
theorem belowL_flatten{n:Nat}: ∀{es:List (List AV)},(∀e∈es,belowL n e=true)→belowL n es.flatten=true
 |[],_=>rfl
 |e::es,h=>by
  have app: ∀(a b:List AV),belowL n a=true→belowL n b=true→belowL n (a++b)=true:=by
   intro a b ha hb
   induction a with
   |nil=>exact hb
   |cons x a ih=>simp only[belowL,Bool.and_eq_true,cons_append]at ha ⊢;exact⟨ha.1,ih ha.2⟩
  rw[flatten_cons]
  exact app _ _ (h e (by simp)) (belowL_flatten fun x hx=>h x (by simp[hx]))
theorem belowH_get{n:Nat}: ∀{H:Heap} {b:Nat} {x:Blk},belowH n H→H[b]? =some x→belowB n x
 |[],b,x,_,h=>by simp at h
 |y::H,0,x,h,e=>by simp at e;subst e;exact h.1
 |y::H,b+1,x,h,e=>belowH_get h.2 (by simpa using e)
theorem belowE_get{n:Nat}: ∀{env:Env} (t:Nat),belowE n env→belowV n (eget env t)=true
 |[],_,_=>rfl
 |(k,v)::r,t,h=>by
  rw[eget_cons]
  split
  ·exact h.1
  ·exact belowE_get t h.2
theorem subE_get{env:Env}: ∀{env':Env} (t:Nat),subE env env'→eget env' t= .any∨eget env' t=eget env t
 |[],_,_=> .inl rfl
 |(k,v)::r,t,h=>by
  rw[eget_cons]
  split
  ·rename_i e;subst e;exact .inr h.1.symm
  ·exact subE_get t h.2
theorem pfx_take: ∀{H H':Heap},pfx H H'→H=H'.take H.length
 |[],_,_=>by simp
 |a::as,b::bs,h=>by
  have:=pfx_take h.2
  rw[h.1,length_cons,List.take_succ_cons,← this]
 |_::_,[],h=>h.elim
theorem Conc.trunc{κ:Cx}(hc:Conc κ){n:Nat}(hb:belowH n (κ.H.take n)):Conc { κ with H:=κ.H.take n }:=by
 refine⟨fun b x hx=>?_,fun b b' h1 h2=>?_,fun b h1=>?_,hc.swf,hc.gl⟩
 ·have hx2:b<n∧κ.H[b]? =some x:=by
   simp only[getElem?_take]at hx
   split at hx
   ·exact⟨by assumption,hx⟩
   ·cases hx
  have hbx:=belowH_get hb hx
  have hk:=hc.blk b x hx2.2
  cases x with
  |box ty cs sl=>
   obtain⟨a1,cur,a2,a3,a4,a5⟩:=hk
   exact⟨a1,cur,a2,VL.trunc cs _ hbx a3,a4,a5⟩
  |row el sz es sl=>
   obtain⟨a1,a2,a3,a4⟩:=hk
   refine⟨a1,a2,a3,fun hn=>?_⟩
   obtain⟨⟨cur,c1,c2,c3,c4,c5,c6⟩,d⟩:=a4 hn
   exact⟨⟨cur,c1,c2,c3,c4,VL.trunc _ _ (belowL_flatten hbx) c5,c6⟩,d⟩
  |rg el sz es g=>
   obtain⟨a1,a2,a3,a4⟩:=hk
   refine⟨a1,a2,a3,fun hn=>?_⟩
   obtain⟨⟨cur,c1,c2,c3,c4,c5,c6⟩,d⟩:=a4 hn
   exact⟨⟨cur,c1,c2,c3,c4,VL.trunc _ _ (belowL_flatten hbx) c5,c6⟩,d⟩
  |loop l nt ps assign body env=>
   obtain⟨a1,a2,fn,tmps,dfr,a3,a4,a5,a6⟩:=hk
   exact⟨a1,a2,fn,tmps,dfr,a3,a4,fun t=>V.trunc _ _ (belowE_get t hbx) (a5 t),a6⟩
  |mp P' g' t' q' n' f'=>exact hk
  |raw g' k'=>exact hk
  |lpx l=>exact hk
  |lpe l c=>exact hk
  |gone=>exact hk
 ·simp only[length_take]at h1 h2
  exact hc.inj b b' (by omega) (by omega)
 ·simp only[length_take]at h1
  exact hc.lt b (by omega)
theorem StepM.trunc{E κ:Cx}(h:StepM E κ){n:Nat}(hn:E.H.length≤n):StepM E { κ with H:=κ.H.take n }:=by
 have hlt: ∀{b:Nat} {x:Blk},E.H[b]? =some x→b<n:=fun hb=>by have:=(List.getElem?_eq_some_iff.1 hb).1;omega
 exact {
  s:=h.s
  box:=fun b ty cs sl hb=>by
   obtain⟨e1,cs',sl',e2⟩:=h.box b ty cs sl hb
   exact⟨e1,cs',sl',take_get e2 (hlt hb)⟩
  row:=fun b el sz es sl hb=>by
   obtain⟨es',sl',e1,e2⟩:=h.row b el sz es sl hb
   exact⟨es',sl',take_get e1 (hlt hb),e2⟩
  rg:=fun b el sz es g hb=>by
   obtain⟨es',g',e1,e2⟩:=h.rg b el sz es g hb
   exact⟨es',g',take_get e1 (hlt hb),e2⟩
  os:=h.os,tape:=h.tape,output:=h.output,size:=h.size,frame:=h.frame,snew:=h.snew
  own:=fun g ⟨b,h1,h2,h3⟩=>h.own g ⟨b,by simp only[length_take]at h1;omega,h2,h3⟩ }
def Wk(m:Nat)(s s':St):Prop:=subE s.env s'.env∧(s'.H=s.H∨(pfx s'.H s.H∧m≤s'.H.length∧belowE s'.H.length s'.env∧belowH s'.H.length s'.H))
theorem Wk.good{nt m:Nat}{E:Cx}{s s':St}{a:Act}{w:World}(h:Wk m s s')(hE:E.H.length=m)(hg:Good nt E s a w):Good nt E s' a w:=by
 obtain⟨κ,rfl,h2,h3,h4,h5,h6,h7⟩:=hg
 obtain⟨hs,hh⟩:=h
 have hv: ∀t,V κ (eget s'.env t) (a.tmps.getD t undef):=fun t=>by
  rcases subE_get t hs with e|e
  ·rw[e];trivial
  ·rw[e];exact h6 t
 rcases hh with hh|⟨p1,p2,p3,p4⟩
 ·exact⟨κ,rfl,h2.trans hh.symm,h3,h4,h5,hv,h7⟩
 ·have hH:s'.H=κ.H.take s'.H.length:=by rw[h2];exact pfx_take p1
  refine⟨{ κ with H:=κ.H.take s'.H.length },rfl,hH.symm,h3.trunc (by rw[←hH];exact p4),h4.trunc (by omega),h5,fun t=>V.trunc _ _ (belowE_get t p3) (hv t),h7.1,fun d hd=>?_⟩
  obtain⟨D,e1,e2,e3,e4⟩:=h7.2 d hd
  exact⟨D,e1,e2,e3,fun⟨b,q1,q2,q3⟩=>e4 ⟨b,by simp only[length_take]at q1;omega,q2,q3⟩⟩
section
variable {P:Program} {nt m:Nat} {R:Exit→St→Prop} {k:List Iv} {st:St}
theorem CV.wk{st':St}(hw:Wk m st st')(h:CV P nt m R k st'):CV P nt m R k st:=
 CV.mk fun k' hr=>VC.wk (fun E a w hE hg=>hw.good hE hg) (h.of k' hr)
theorem VC.backMono{I J:St→Prop}{c:Code}{k:List It}(hv:VC P nt m R (.code c:: .back I::k) st)(h: ∀s,I s→J s):VC P nt m R (.code c:: .back J::k) st:=
 fun F E a w hF hE hg=>wpIn_mono (hv F E a w hF hE hg) fun e a w hp=>by
  cases e<;>first|exact hp|(obtain⟨s,h1,h2⟩:=hp;exact⟨s,h s h1,h2⟩)
theorem vc_loop_eq{c:Code}:vc P nt m R (.code (.loop c)::k) st=CV P nt m R (.code (.loop c)::k) st:=by
 rw[vc]
 all_goals (intros;simp_all)
theorem vc_range_eq{f:Operand}{ps:Array Tmp}{a b:Code}:vc P nt m R (.code (.rangeFunc f ps a b)::k) st=CV P nt m R (.code (.rangeFunc f ps a b)::k) st:=by
 rw[vc]
 all_goals (intros;simp_all)
theorem vc_draw_eq{id:Nat}{ops:Array Oper}:vc P nt m R (.code (.region id ops true)::k) st=CV P nt m R (.code (.region id ops true)::k) st:=by
 rw[vc]
 all_goals (intros;simp_all)
theorem CV.loop{c:Code}(I:Nat→St→Prop)(n:Nat)(s0:St)(hw:Wk m st s0)(h0:I n s0)(h: ∀n s,I n s→CV P nt m R (.code c:: .back (fun s'=> ∃j s'',j<n∧Wk m s' s''∧I j s'')::k) s):CV P nt m R (.code (.loop c)::k) st:=by
 refine CV.wk hw (CV.mk fun k' hr=>?_)
 obtain⟨r,rfl,hr'⟩:=hr
 refine VC.loop (fun n s=> ∃s'',(∀(E:Cx) (a:Act) (w:World),E.H.length=m→Good nt E s a w→Good nt E s'' a w)∧I n s'') n ⟨s0,fun _ _ _ _ hg=>hg,h0⟩ ?_
 rintro n s ⟨s'',hw',hi⟩
 refine VC.wk (fun E a w hE hg=>hw' E a w hE hg) ?_
 have h1:=(h n s'' hi).of _ ⟨_,rfl,_,rfl,hr'⟩
 refine h1.backMono ?_
 rintro s1 ⟨j,s2,hj,hw2,hi2⟩
 exact⟨j,hj,s2,fun E a w hE hg=>hw2.good hE hg,hi2⟩
theorem vc_for{c:Code}(F:Nat→St)(N:Nat)(X:Nat→Prop)(hw:Wk m st (F 0))(h0:X 0)(h: ∀j,j≤N→X j→vc P nt m R (.code c:: .back (fun s'=>j<N∧Wk m s' (F (j+1))∧X (j+1))::k) (F j)):vc P nt m R (.code (.loop c)::k) st:=by
 rw[vc_loop_eq]
 refine CV.loop (fun n s=> ∃j,j≤N∧n=N-j∧s=F j∧X j) N (F 0) hw ⟨0,Nat.zero_le _,rfl,rfl,h0⟩ ?_
 rintro n s ⟨j,hj,rfl,rfl,hx⟩
 refine CV.mk fun k' hr=>?_
 obtain⟨_,rfl,r,rfl,hr'⟩:=hr
 exact((CV.run (h j hj hx)).of _ ⟨_,rfl,_,rfl,hr'⟩).backMono (fun s' ⟨h1,h2,h3⟩=>⟨N-(j+1),F (j+1),by omega,h2,j+1,h1,rfl,rfl,h3⟩)
end
end Go.Fl
namespace Go.Fl
open Go.RowKit
mutual
def frz(H:Heap)(v:AV):AV→Prop
 | .any=>True
 | .int k n=>v= .int k n
 | .bool b=>v= .bool b
 | .nilS=>v= .nilS
 | .nilP=>v= .nilP
 | .nilF=>v= .nilF
 | .agg cs'=>match v with
  | .agg cs=>frzL H cs cs'
  |_=>False
 | .tup cs'=>match v with
  | .tup cs=>frzL H cs cs'
  |_=>False
 | .lst f sz es'=>match v with
  | .lst f2 sz2 es=>sz2=sz∧es=es'∧(f=true→f2=true)
  | .nilS=>es'=[]
  | .row b n=>f=false∧(match H[b]? with
   |some (.row _ sz2 es _)=>sz2=sz∧es.length=n∧frzE H es es'
   |_=>False)
  | .rg b n g=>f=false∧(match H[b]? with
   |some (.rg _ sz2 es g2)=>sz2=sz∧g2=g∧frzE H (es.take n) es'
   |_=>False)
  |_=>False
 | .row _ _=>False
 | .pp cs'=>match v with
  | .pp cs=>cs=cs'
  | .lp b off=>match H[b]? with
   |some (.box _ cs _)=>frzL H (cs.drop off) cs'
   |_=>False
  |_=>False
 | .lp _ _=>False
 | .rp _ _ _ _=>False
 | .rg _ _ _=>False
 | .fn f caps'=>match v with
  | .fn f2 caps=>f2=f∧frzL H caps caps'
  |_=>False
 | .bf f caps'=>match v with
  | .bf f2 caps=>f2=f∧frzL H caps caps'
  |_=>False
 | .yld _=>False
 | .mp _=>False
 | .val _=>False
 | .lf x=>v= .lf x
 | .ifc f caps'=>match v with
  | .ifc f2 caps=>f2=f∧frzL H caps caps'
  |_=>False
 | .alt vs'=>match v with
  | .alt vs=>vs=vs'
  |_=>False
 | .pm P t q f=>match v with
  | .pm P' t' q' f'=>P'=P∧t'=t∧q'=q∧f'=f
  | .mp g=>match findM H g with
   |some (_,P',t',q',_,f')=>P'=P∧t'=t∧q'=q∧f'=f
   |none=>False
  |_=>False
def frzL(H:Heap)(vs:List AV):List AV→Prop
 |[]=>vs=[]
 |v'::vs'=>match vs with
  |v::vs=>frz H v v'∧frzL H vs vs'
  |[]=>False
def frzE(H:Heap)(es:List (List AV)):List (List AV)→Prop
 |[]=>es=[]
 |e'::es'=>match es with
  |e::es=>frzL H e e'∧frzE H es es'
  |[]=>False
end
theorem frzE_length{H:Heap}: ∀{es es':List (List AV)},frzE H es es'→es.length=es'.length
 |es,[],h=>by rw[show es=[]from h]
 |e::es,e'::es',h=>by simp[frzE_length h.2]
 |[],e'::es',h=>h.elim
theorem frzL_length{H:Heap}: ∀{es es':List AV},frzL H es es'→es.length=es'.length
 |es,[],h=>by rw[show es=[]from h]
 |e::es,e'::es',h=>by simp[frzL_length h.2]
 |[],e'::es',h=>h.elim
theorem pvl_append{S:Nat→Nat→Prop}{w:World}: ∀{a b:List AV} {l m:List Value},PVL S w a l→PVL S w b m→PVL S w (a++b) (l++m)
 |[],_,_,_,h,k=>by rw[show _=_ from h];exact k
 |_::a,_,_,_,⟨c,cs,e,h1,h2⟩,k=>by rw[e];exact⟨c,_,rfl,h1,pvl_append h2 k⟩
def sealed(κ:Cx)(g o:Nat):Prop:=κ.S g o∨Owned κ g
theorem pve_of_cells{S:Nat→Nat→Prop}{w:World}{sz:Nat}: ∀(es:List (List AV)) (ad:Addr),ad.spot=none→(∀e∈es,e.length=sz)→PVC S w es.flatten ad→PVE S w sz es ad
 |[],_,_,_,_=>trivial
 |e::es,ad,hs,hl,h=>by
  rw[flatten_cons]at h
  have he:=hl e (by simp)
  refine⟨?_,pve_of_cells es _ rfl (fun x hx=>hl x (by simp[hx])) ?_⟩
  ·have:=PVC.take e.length _ _ h
   rwa[List.take_left' rfl]at this
  ·have:=h.drop e.length _ ad hs
   rwa[List.drop_left' rfl,he]at this
section
variable {κ:Cx} (hc:Conc κ)
include hc
mutual
theorem frz_ok: ∀(v' v:AV) (c:Value),frz κ.H v v'→V κ v c→PV (sealed κ) κ.w v' c
 | .any,_,_,_,_=>trivial
 | .int _ _,v,c,h,hv=>by rw[show v=_ from h]at hv;exact hv
 | .bool _,v,c,h,hv=>by rw[show v=_ from h]at hv;exact hv
 | .nilS,v,c,h,hv=>by rw[show v=_ from h]at hv;exact hv
 | .nilP,v,c,h,hv=>by rw[show v=_ from h]at hv;exact hv
 | .nilF,v,c,h,hv=>by rw[show v=_ from h]at hv;exact hv
 | .agg cs',v,c,h,hv=>by
  cases v<;>simp only[frz]at h
  obtain⟨a,e,hl⟩:=hv
  exact⟨a,e,frzL_ok cs' _ _ h hl⟩
 | .tup cs',v,c,h,hv=>by
  cases v<;>simp only[frz]at h
  obtain⟨a,e,hl⟩:=hv
  exact⟨a,e,frzL_ok cs' _ _ h hl⟩
 | .lst f sz es',v,c,h,hv=>by
  cases v<;>simp only[frz]at h
  ·subst h
   exact⟨none,0,hv,by simp,by simp[maxLen],fun _=>rfl,(fun ad e=>by cases e),fun _=>rfl,by simp⟩
  ·obtain⟨rfl,rfl,hf⟩:=h
   obtain⟨A,cap,e,h1,h2,h3,h4⟩:=PV.mono (S':=sealed κ) (w':=κ.w) (fun g o hs=>⟨.inl hs,SameAt.refl⟩) _ _ (show PV κ.S κ.w _ c from hv)
   exact⟨A,cap,e,h1,h2,fun hh=>h3 (hf hh),h4⟩
  ·rename_i b n
   obtain⟨rfl,h⟩:=h
   split at h
   ·rename_i el sz2 es sl hb
    obtain⟨rfl,hn,he⟩:=h
    obtain⟨_,el',sz',es2,sl',hb',hle,e⟩:=hv
    rw[hb]at hb';cases hb'
    have hval:=e hn
    subst hval
    obtain⟨hsz,hes,hnil,hrow⟩:=hc.blk b _ hb
    have hl:=frzE_length he
    have hbl:b<κ.H.length:=(List.getElem?_eq_some_iff.1 hb).1
    have hes': ∀e∈es',e.length=sz2:=by
     have: ∀(a a':List (List AV)),frzE κ.H a a'→(∀e∈a,e.length=sz2)→ ∀e∈a',e.length=sz2:=by
      intro a a' h ha
      induction a' generalizing a with
      |nil=>simp
      |cons x a' ih=>
       cases a with
       |nil=>exact h.elim
       |cons y a=>
        intro e he
        simp only[List.mem_cons]at he
        rcases he with rfl|he
        ·rw[←frzL_length h.1];exact ha y (by simp)
        ·exact ih a h.2 (fun e he=>ha e (by simp[he])) e he
     exact this _ _ he hes
    cases hq:(κ.ρ b).isNil with
    |true=>
     obtain⟨h1,h2⟩:=hnil hq
     subst h2
     have:es'=[]:=List.eq_nil_of_length_eq_zero (by simpa using hl.symm)
     subst this
     simp only[List.length_nil]at hn
     subst hn
     refine⟨(κ.ρ b).adr,0,by simp[rowVal,hq,h1],by simp,by simp[maxLen],fun _=>rfl,fun ad ha=>⟨fun hne=>absurd rfl hne,trivial⟩,fun _=>rfl,by simp⟩
    |false=>
     obtain⟨⟨cur,a1,a2,a3,a4,a5,a6⟩,_⟩:=hrow hq
     refine⟨some ⟨(κ.ρ b).blk,0,none⟩,(κ.ρ b).cap,by simp[rowVal,hq,← hl,hn],by omega,a4,(fun e=>by cases e),fun ad ha=>?_,(fun e=>by cases e),hes'⟩
     cases ha
     refine⟨fun _=>rfl,pve_of_cells es' _ rfl hes' (pvc_of _ _ 0 (frzE_ok _ _ _ he a5) a6 (fun j u hu=>⟨?_,.inr ⟨b,hbl,hq,rfl⟩⟩))⟩
     rw[Nat.zero_add,cell_of_row κ.w _ j cur el (0,0) a1]
     rw[getElem?_take]at hu
     split at hu
     ·simpa using hu
     ·cases hu
   ·exact h.elim
  ·rename_i b n g
   obtain⟨rfl,h⟩:=h
   split at h
   ·rename_i el sz2 zs g2 hb
    obtain⟨rfl,rfl,he⟩:=h
    obtain⟨_,el',sz',es2,g',hb',hle,e⟩:=hv
    rw[hb]at hb';cases hb'
    obtain⟨hnz,hval⟩:=e rfl
    subst hval
    obtain⟨A,cap,news,e1,m1,m2,m3,m4,m5⟩:=srcG_ok hc hb n hnz
    have hl:=frzE_length he
    have hbl:b<κ.H.length:=(List.getElem?_eq_some_iff.1 hb).1
    have hes': ∀e∈es',e.length=sz2:=by
     have: ∀(a a':List (List AV)),frzE κ.H a a'→(∀e∈a,e.length=sz2)→ ∀e∈a',e.length=sz2:=by
      intro a a' h ha
      induction a' generalizing a with
      |nil=>simp
      |cons x a' ih=>
       cases a with
       |nil=>exact h.elim
       |cons y a=>
        intro e he
        simp only[List.mem_cons]at he
        rcases he with rfl|he
        ·rw[←frzL_length h.1];exact ha y (by simp)
        ·exact ih a h.2 (fun e he=>ha e (by simp[he])) e he
     exact this _ _ he m2
    obtain⟨hsz,hes,hnil,hrow⟩:=hc.blk b _ hb
    have hxl:(zs.take n).length=n:=by rw[length_take];omega
    cases hq:(κ.ρ b).isNil with
    |true=>
     obtain⟨h1,h2⟩:=hnil hq
     subst h2
     have hn0:n=0:=by simpa using hnz
     subst hn0
     have:es'=[]:=List.eq_nil_of_length_eq_zero (by simpa using hl.symm)
     subst this
     refine⟨(κ.ρ b).adr,0,by simp[rowVal,hq,h1],by simp,by simp[maxLen],fun _=>rfl,fun ad ha=>⟨fun hne=>absurd rfl hne,trivial⟩,fun _=>rfl,by simp⟩
    |false=>
     obtain⟨⟨cur,a1,a2,a3,a4,a5,a6⟩,_⟩:=hrow hq
     simp only[rowVal,hq,Bool.false_eq_true,if_false,Value.slice.injEq]at e1
     obtain⟨rfl,e2,rfl⟩:=e1
     refine⟨some ⟨(κ.ρ b).blk,0,none⟩,(κ.ρ b).cap,by simp[rowVal,hq,← hl,hxl],by omega,a4,(fun e=>by cases e),fun ad ha=>?_,(fun e=>by cases e),hes'⟩
     cases ha
     refine⟨fun _=>rfl,pve_of_cells es' _ rfl hes' (pvc_of _ _ 0 (frzE_ok _ _ _ he m3) m4 (fun j u hu=>⟨?_,.inr ⟨b,hbl,hq,rfl⟩⟩))⟩
     have:=m5 _ rfl j u hu
     rw[add_none rfl]at this
     exact this
   ·exact h.elim
 | .row _ _,_,_,h,_=>h.elim
 | .pp cs',v,c,h,hv=>by
  cases v<;>simp only[frz]at h
  ·subst h
   exact PV.mono (S':=sealed κ) (w':=κ.w) (fun g o hs=>⟨.inl hs,SameAt.refl⟩) _ _ (show PV κ.S κ.w _ c from hv)
  ·rename_i b off
   split at h
   ·rename_i ty cs sl hb
    obtain⟨ty',cs2,sl',hb',e⟩:=hv
    rw[hb]at hb';cases hb'
    obtain⟨a1,cur,a2,a3,a4,a5⟩:=hc.blk b _ hb
    have hbl:b<κ.H.length:=(List.getElem?_eq_some_iff.1 hb).1
    refine⟨_,e,rfl,pvc_of _ _ off (frzL_ok _ _ _ h (a3.drop off)) (fun u hu=>a4 u (List.mem_of_mem_drop hu)) (fun j u hu=>⟨?_,.inr ⟨b,hbl,a1,rfl⟩⟩)⟩
    rw[cell_of_row κ.w _ _ cur ty (0,0) a2]
    rw[List.getElem?_drop]at hu
    simpa using hu
   ·exact h.elim
 | .lp _ _,_,_,h,_=>h.elim
 | .rp _ _ _ _,_,_,h,_=>h.elim
 | .rg _ _ _,_,_,h,_=>h.elim
 | .fn f caps',v,c,h,hv=>by
  cases v<;>simp only[frz]at h
  obtain⟨rfl,h⟩:=h
  obtain⟨a,e,hl⟩:=hv
  exact⟨a,e,frzL_ok caps' _ _ h hl⟩
 | .bf f caps',v,c,h,hv=>by
  cases v<;>simp only[frz]at h
  obtain⟨rfl,h⟩:=h
  obtain⟨a,e,hl⟩:=hv
  exact⟨a,e,frzL_ok caps' _ _ h hl⟩
 | .yld _,_,_,h,_=>h.elim
 | .mp _,_,_,h,_=>h.elim
 | .val _,_,_,h,_=>h.elim
 | .lf _,v,c,h,hv=>by rw[show v=_ from h]at hv;exact hv
 | .ifc f caps',v,c,h,hv=>by
  cases v<;>simp only[frz]at h
  obtain⟨rfl,h⟩:=h
  obtain⟨a,e,hl⟩:=hv
  exact⟨a,e,frzL_ok caps' _ _ h hl⟩
 | .alt vs',v,c,h,hv=>by
  cases v<;>simp only[frz]at h
  subst h
  exact PV.mono (S':=sealed κ) (w':=κ.w) (fun g o hs=>⟨.inl hs,SameAt.refl⟩) _ _ (show PV κ.S κ.w _ c from hv)
 | .pm P t q f,v,c,h,hv=>by
  cases v<;>simp only[frz]at h
  ·rename_i g
   cases hf:findM κ.H g with
   |none=>rw[hf]at h;exact h.elim
   |some z=>
    obtain⟨b,P',t',q',n,f'⟩:=z
    rw[hf]at h
    obtain⟨rfl,rfl,rfl,rfl⟩:=h
    have hb:=findM_ok hf
    obtain⟨a1,a2,a3,a4⟩:=hc.blk b _ hb
    exact⟨g,n,hv,.inr ⟨b,(List.getElem?_eq_some_iff.1 hb).1,a1,a2⟩,a3⟩
  ·obtain⟨rfl,rfl,rfl,rfl⟩:=h
   exact PV.mono (S':=sealed κ) (w':=κ.w) (fun g o hs=>⟨.inl hs,SameAt.refl⟩) _ _ (show PV κ.S κ.w _ c from hv)
theorem frzL_ok: ∀(vs' vs:List AV) (l:List Value),frzL κ.H vs vs'→VL κ vs l→PVL (sealed κ) κ.w vs' l
 |[],vs,l,h,hv=>by rw[show vs=[]from h]at hv;exact hv
 |v'::vs',vs,l,h,hv=>by
  cases vs with
  |nil=>exact h.elim
  |cons v vs=>
   obtain⟨c,cs,e,h1,h2⟩:=hv
   exact⟨c,cs,e,frz_ok v' v c h.1 h1,frzL_ok vs' vs cs h.2 h2⟩
theorem frzE_ok: ∀(es' es:List (List AV)) (l:List Value),frzE κ.H es es'→VL κ es.flatten l→PVL (sealed κ) κ.w es'.flatten l
 |[],es,l,h,hv=>by rw[show es=[]from h]at hv;exact hv
 |e'::es',es,l,h,hv=>by
  cases es with
  |nil=>exact h.elim
  |cons e es=>
   have h1:=hv.take e.length
   have h2:=hv.drop e.length
   rw[flatten_cons,List.take_left' rfl]at h1
   rw[flatten_cons,List.drop_left' rfl]at h2
   have p1:=frzL_ok e' e _ h.1 h1
   have p2:=frzE_ok es' es _ h.2 h2
   have:=pvl_append p1 p2
   rwa[List.take_append_drop]at this
end
end
mutual
def shiftV(n:Nat):AV→AV
 | .agg cs=> .agg (shiftL n cs)
 | .tup cs=> .tup (shiftL n cs)
 | .fn f cs=> .fn f (shiftL n cs)
 | .bf f cs=> .bf f (shiftL n cs)
 | .row b k=> .row (n+b) k
 | .lp b o=> .lp (n+b) o
 | .rp b k i o=> .rp (n+b) k i o
 | .rg b k g=> .rg (n+b) k g
 | .yld l=> .yld l
 | .mp l=> .mp l
 | .val l=> .val l
 | .pm a b c d=> .pm a b c d
 | .alt a=> .alt a
 | .lf a=> .lf a
 | .ifc f cs=> .ifc f (shiftL n cs)
 | .any=> .any
 | .int k m=> .int k m
 | .bool b=> .bool b
 | .nilS=> .nilS
 | .nilP=> .nilP
 | .nilF=> .nilF
 | .lst f s e=> .lst f s e
 | .pp c=> .pp c
def shiftL(n:Nat):List AV→List AV
 |[]=>[]
 |v::vs=>shiftV n v::shiftL n vs
end
def shiftB(n:Nat):Blk→Blk
 | .box ty cs sl=> .box ty (shiftL n cs) sl
 | .row el sz es sl=> .row el sz (es.map (shiftL n)) sl
 | .rg el sz es g=> .rg el sz (es.map (shiftL n)) g
 | .loop l nt ps assign body env=> .loop l nt ps assign body (env.map fun p=>(p.1,shiftV n p.2))
 | .mp P g t q n f=> .mp P g t q n f
 | .raw g k=> .raw g k
 | .lpx l=> .lpx l
 | .lpe l c=> .lpe l c
 | .gone=> .gone
theorem eget_shift(n:Nat): ∀(env:Env) (t:Nat),eget (env.map fun p=>(p.1,shiftV n p.2)) t=shiftV n (eget env t)
 |[],t=>by simp[eget,shiftV]
 |(k,v)::r,t=>by
  have:=eget_shift n r t
  simp only[map_cons,eget]
  split
  ·rfl
  ·exact this
mutual
def safeV:AV→Bool
 | .agg cs=>safeL cs
 | .tup cs=>safeL cs
 | .fn _ cs=>safeL cs
 | .bf _ cs=>safeL cs
 | .lst _ _ _=>false
 | .pp _=>false
 | .row _ _=>true
 | .lp _ _=>true
 | .rp _ _ _ _=>true
 | .rg _ _ _=>true
 | .yld _=>true
 | .mp _=>true
 | .val _=>true
 | .pm _ _ _ _=>false
 | .alt _=>false
 | .lf _=>true
 | .ifc _ cs=>safeL cs
 | .any=>true
 | .int _ _=>true
 | .bool _=>true
 | .nilS=>true
 | .nilP=>true
 | .nilF=>true
def safeL:List AV→Bool
 |[]=>true
 |v::vs=>safeV v&&safeL vs
end
def safeB:Blk→Prop
 | .box _ cs _=>safeL cs=true
 | .row _ _ es _=> ∀e∈es,safeL e=true
 | .rg _ _ es _=> ∀e∈es,safeL e=true
 | .loop _ _ _ _ _ env=> ∀t,safeV (eget env t)=true
 | .mp _ _ _ _ _ _=>True
 | .raw _ _=>True
 | .lpx _=>True
 | .lpe _ _=>True
 | .gone=>True
def safeH:Heap→Prop
 |[]=>True
 |b::H=>safeB b∧safeH H
theorem shiftL_length(n:Nat): ∀vs:List AV,(shiftL n vs).length=vs.length
 |[]=>rfl
 |_::vs=>by simp[shiftL,shiftL_length n vs]
theorem shiftL_append(n:Nat): ∀a b:List AV,shiftL n (a++b)=shiftL n a++shiftL n b
 |[],b=>rfl
 |v::a,b=>by simp[shiftL,shiftL_append n a b]
theorem shiftL_flatten(n:Nat): ∀es:List (List AV),(es.map (shiftL n)).flatten=shiftL n es.flatten
 |[]=>rfl
 |e::es=>by simp[shiftL_append,shiftL_flatten n es]
structure Embeds(κ κ':Cx)(n:Nat):Prop where
 H: ∀b x,κ.H[b]? =some x→κ'.H[n+b]? =some (shiftB n x)
 ρ: ∀b,b<κ.H.length→κ'.ρ (n+b)=κ.ρ b
section
variable {κ κ':Cx} {n:Nat} (he:Embeds κ κ' n)
include he
mutual
theorem V.shift: ∀(v:AV) (c:Value),(safeV v=true∨ ∀v c,PV κ.S κ.w v c→PV κ'.S κ'.w v c)→V κ v c→V κ' (shiftV n v) c
 | .any,_,_,_=>trivial
 | .int _ _,_,_,hv=>hv
 | .bool _,_,_,hv=>hv
 | .nilS,_,_,hv=>hv
 | .nilP,_,_,hv=>hv
 | .nilF,_,_,hv=>hv
 | .agg cs,_,hs,⟨a,e,hl⟩=>⟨a,e,VL.shift cs _ hs hl⟩
 | .tup cs,_,hs,⟨a,e,hl⟩=>⟨a,e,VL.shift cs _ hs hl⟩
 | .fn _ cs,_,hs,⟨a,e,hl⟩=>⟨a,e,VL.shift cs _ hs hl⟩
 | .bf _ cs,_,hs,⟨a,e,hl⟩=>⟨a,e,VL.shift cs _ hs hl⟩
 | .lst f sz es,c,hs,hv=>by
  rcases hs with hs|hs
  ·simp[safeV]at hs
  ·exact hs _ _ hv
 | .pp cs,c,hs,hv=>by
  rcases hs with hs|hs
  ·simp[safeV]at hs
  ·exact hs _ _ hv
 | .row b k,c,_,⟨h0,el,sz,es,sl,h1,h2,h3⟩=>by
  have hb:=(List.getElem?_eq_some_iff.1 h1).1
  exact⟨h0,el,sz,es.map (shiftL n),sl,he.H b _ h1,by simpa using h2,fun e=>by rw[he.ρ b hb];exact h3 (by simpa using e)⟩
 | .lp b off,c,_,⟨ty,cs,sl,h1,h2⟩=>by
  have hb:=(List.getElem?_eq_some_iff.1 h1).1
  exact⟨ty,shiftL n cs,sl,he.H b _ h1,by rw[he.ρ b hb];exact h2⟩
 | .rp b k i off,c,_,⟨h0,el,sz,es,sl,h1,h2,h3⟩=>by
  have hb:=(List.getElem?_eq_some_iff.1 h1).1
  exact⟨h0,el,sz,es.map (shiftL n),sl,he.H b _ h1,by simpa using h2,fun e=>by rw[he.ρ b hb];exact h3 (by simpa using e)⟩
 | .rg b k g,c,_,⟨h0,el,sz,es,g',h1,h2,h3⟩=>by
  have hb:=(List.getElem?_eq_some_iff.1 h1).1
  exact⟨h0,el,sz,es.map (shiftL n),g',he.H b _ h1,h2,fun e=>by rw[he.ρ b hb];exact⟨by rw[length_map];exact(h3 e).1,(h3 e).2⟩⟩
 | .yld _,_,_,hv=>hv
 | .mp _,_,_,hv=>hv
 | .val _,_,_,hv=>hv
 | .lf _,_,_,hv=>hv
 | .ifc _ cs,_,hs,⟨a,e,hl⟩=>⟨a,e,VL.shift cs _ hs hl⟩
 | .alt _,c,hs,hv=>by
  rcases hs with hs|hs
  ·simp[safeV]at hs
  ·exact hs _ _ hv
 | .pm _ _ _ _,c,hs,hv=>by
  rcases hs with hs|hs
  ·simp[safeV]at hs
  ·exact hs _ _ hv
theorem VL.shift: ∀(vs:List AV) (l:List Value),(safeL vs=true∨ ∀v c,PV κ.S κ.w v c→PV κ'.S κ'.w v c)→VL κ vs l→VL κ' (shiftL n vs) l
 |[],_,_,hv=>hv
 |v::vs,_,hs,⟨c,cs,e,h1,h2⟩=>
  ⟨c,cs,e,V.shift v c (hs.imp (fun h=>by simp only[safeL,Bool.and_eq_true]at h;exact h.1) id) h1,VL.shift vs cs (hs.imp (fun h=>by simp only[safeL,Bool.and_eq_true]at h;exact h.2) id) h2⟩
end
end
theorem safeH_get: ∀{H:Heap} {b:Nat} {x:Blk},safeH H→H[b]? =some x→safeB x
 |[],b,x,_,h=>by simp at h
 |y::H,0,x,h,e=>by simp at e;subst e;exact h.1
 |y::H,b+1,x,h,e=>safeH_get h.2 (by simpa using e)
theorem safeL_flatten: ∀{es:List (List AV)},(∀e∈es,safeL e=true)→safeL es.flatten=true
 |[],_=>rfl
 |e::es,h=>by
  have app: ∀(a b:List AV),safeL a=true→safeL b=true→safeL (a++b)=true:=by
   intro a b ha hb
   induction a with
   |nil=>exact hb
   |cons x a ih=>simp only[safeL,Bool.and_eq_true,cons_append]at ha ⊢;exact⟨ha.1,ih ha.2⟩
  rw[flatten_cons]
  exact app _ _ (h e (by simp)) (safeL_flatten fun x hx=>h x (by simp[hx]))
theorem take_overS{κ κ'':Cx}(hc:Conc κ){S0:Nat→Nat→Prop}(hs:StepM { S:=S0,w:=κ.w,ρ:=κ.ρ,H:=[] } κ'')(hc2:Conc κ'')(S':Nat→Nat→Prop)
  (h0: ∀g o,κ.S g o→S0 g o∧S' g o) (h1: ∀g o,S' g o→κ.S g o∨(κ.w.heap.size≤g∧κ''.S g o)) (r:AV) (c:Value) (hv:V κ'' r c)
  (hp:(safeV r=true∧safeH κ''.H)∨ ∀v c,PV κ''.S κ''.w v c→PV S' κ''.w v c):
  ∃κ',κ'.S=S'∧κ'.w=κ''.w∧κ'.H=κ.H++κ''.H.map (shiftB κ.H.length)∧Conc κ'∧StepM κ κ'∧V κ' (shiftV κ.H.length r) c:=by
 have hno: ∀g,¬ Owned { S:=S0,w:=κ.w,ρ:=κ.ρ,H:=[] } g:=fun g ⟨b,hb,_⟩=>by simp at hb
 have hframe: ∀g,g<κ.w.heap.size→κ''.w.heap[g]? =κ.w.heap[g]? :=fun g hg=>hs.frame g hg (hno g)
 have hown: ∀g,Owned κ'' g→κ.w.heap.size≤g:=fun g hg=>(hs.own g hg).resolve_left (hno g)
 let n:=κ.H.length
 let κ':Cx:={ S:=S',w:=κ''.w,ρ:=fun b=>if b<n then κ.ρ b else κ''.ρ (b-n),H:=κ.H++κ''.H.map (shiftB n) }
 have hρ1: ∀b,b<n→κ'.ρ b=κ.ρ b:=fun b hb=>by simp only[κ'];rw[if_pos hb]
 have hρ2: ∀b,κ'.ρ (n+b)=κ''.ρ b:=fun b=>by simp only[κ'];rw[if_neg (by omega)];congr 1;omega
 have he:Embeds κ'' κ' n:=⟨fun b x hb=>by simp only[κ'];rw[List.getElem?_append_right (by omega),getElem?_map,show n+b-κ.H.length=b from by omega,hb];rfl,fun b _=>hρ2 b⟩
 have hH1: ∀{b x},κ.H[b]? =some x→κ'.H[b]? =some x:=fun hb=>by simp only[κ'];rw[List.getElem?_append_left (List.getElem?_eq_some_iff.1 hb).1];exact hb
 have hlt: ∀{b x},κ.H[b]? =some x→b<n:=fun hb=>(List.getElem?_eq_some_iff.1 hb).1
 have hk:Keep κ κ':=⟨fun g o h=>⟨(h0 g o h).2,SameAt.of_block (hframe g (hc.swf g o h))⟩,fun b ty cs sl hb=>⟨hρ1 b (hlt hb),cs,sl,hH1 hb⟩,fun b el sz es sl hb=>⟨es,sl,hH1 hb,Nat.le_refl _,fun _=>hρ1 b (hlt hb)⟩,fun b el sz es g hb=>⟨es,g,hH1 hb,Nat.le_refl _,fun _=>⟨rfl,hρ1 b (hlt hb)⟩⟩⟩
 have hsafeL: ∀{vs:List AV},(safeH κ''.H→safeL vs=true)→(safeL vs=true∨ ∀v c,PV κ''.S κ''.w v c→PV κ'.S κ'.w v c):=fun hh=>hp.imp (fun h=>hh h.2) id
 refine⟨κ',rfl,rfl,rfl,⟨fun b x hb=>?_,fun b b' hb hb' hn hn' e=>?_,fun b hb hn=>?_,fun g o h=>?_,hc.gls hk.s⟩,?_,V.shift he r c (hp.imp (fun h=>h.1) id) hv⟩
 ·by_cases hbn:b<n
  ·have hb2:κ.H[b]? =some x:=by simp only[κ']at hb;rwa[List.getElem?_append_left hbn]at hb
   refine(hc.blk b x hb2).keep hk (hρ1 b hbn) (fun hn=>hframe _ (hc.lt b hbn hn)) (fun hn o h=>?_)
   rcases h1 _ o h with h|h
   ·exact h
   ·have:=hc.lt b hbn hn;omega
  ·obtain⟨b0,rfl⟩: ∃b0,b=n+b0:=⟨b-n,by omega⟩
   have hb2: ∃x0,κ''.H[b0]? =some x0∧x=shiftB n x0:=by
    simp only[κ']at hb
    rw[List.getElem?_append_right (by omega),getElem?_map,show n+b0-κ.H.length=b0 from by omega]at hb
    obtain⟨x0,h1,h2⟩:=Option.map_eq_some_iff.1 hb
    exact⟨x0,h1,h2.symm⟩
   obtain⟨x0,hb0,rfl⟩:=hb2
   have hbl0:=(List.getElem?_eq_some_iff.1 hb0).1
   have hS:(κ''.ρ b0).isNil=false→ ∀o,S' (κ''.ρ b0).blk o→κ''.S (κ''.ρ b0).blk o:=fun hn o h=>by
    rcases h1 _ o h with h|h
    ·have hw:=hown _ ⟨b0,hbl0,hn,rfl⟩
     have:=hc.swf _ o h
     omega
    ·exact h.2
   have hok:=hc2.blk b0 x0 hb0
   cases x0 with
   |box ty cs sl=>
    obtain⟨a1,cur,a2,a3,a4,a5⟩:=hok
    simp only[shiftB,BlkOk,hρ2]
    exact⟨a1,cur,a2,VL.shift he cs _ (hsafeL fun h=>safeH_get h hb0) a3,a4,fun e o h=>a5 e o (hS a1 o h)⟩
   |row el sz es sl=>
    obtain⟨a1,a2,a3,a4⟩:=hok
    simp only[shiftB,BlkOk,hρ2,length_map]
    refine⟨a1,fun e he'=>?_,fun hn=>⟨(a3 hn).1,by rw[(a3 hn).2];rfl⟩,fun hn=>?_⟩
    ·obtain⟨e0,h2,rfl⟩:=List.mem_map.1 he'
     rw[shiftL_length];exact a2 e0 h2
    ·obtain⟨⟨cur,c1,c2,c3,c4,c5,c6⟩,d1,d2⟩:=a4 hn
     exact⟨⟨cur,c1,c2,c3,c4,by rw[shiftL_flatten];exact VL.shift he _ _ (hsafeL fun h=>safeL_flatten (safeH_get h hb0)) c5,c6⟩,fun o ho h=>d1 o ho (hS hn o h),fun e o h=>d2 e o (hS hn o h)⟩
   |rg el sz es g=>
    obtain⟨a1,a2,a3,a4⟩:=hok
    simp only[shiftB,BlkOk,hρ2,length_map]
    refine⟨a1,fun e he'=>?_,fun hn=>⟨(a3 hn).1,by rw[(a3 hn).2];rfl⟩,fun hn=>?_⟩
    ·obtain⟨e0,h2,rfl⟩:=List.mem_map.1 he'
     rw[shiftL_length];exact a2 e0 h2
    ·obtain⟨⟨cur,c1,c2,c3,c4,c5,c6⟩,d2⟩:=a4 hn
     exact⟨⟨cur,c1,c2,c3,c4,by rw[shiftL_flatten];exact VL.shift he _ _ (hsafeL fun h=>safeL_flatten (safeH_get h hb0)) c5,c6⟩,fun o h=>d2 o (hS hn o h)⟩
   |loop l nt ps assign body env=>
    obtain⟨a1,a2,fn,tmps,dfr,a3,a4,a5,a6⟩:=hok
    simp only[shiftB,BlkOk,hρ2]
    exact⟨a1,a2,fn,tmps,dfr,a3,a4,fun t=>by rw[eget_shift];exact V.shift he _ _ (hp.imp (fun h=>safeH_get h.2 hb0 t) id) (a5 t),fun o h=>a6 o (by rw[←a2]at h ⊢;exact hS a1 o h)⟩
   |mp P' g' t' q' n' f'=>
    obtain⟨a1,a2,a3,a4⟩:=hok
    simp only[shiftB,BlkOk,hρ2]
    exact⟨a1,a2,a3,fun o h=>a4 o (by rw[←a2]at h ⊢;exact hS a1 o h)⟩
   |raw g' k'=>
    obtain⟨a1,a2,a3,a4⟩:=hok
    simp only[shiftB,BlkOk,hρ2]
    exact⟨a1,a2,a3,fun o h=>a4 o (by rw[←a2]at h ⊢;exact hS a1 o h)⟩
   |gone=>simp only[shiftB,BlkOk,hρ2];exact hok
   |lpe l c=>
    obtain⟨a1,a2,a3,a4⟩:=hok
    simp only[shiftB,BlkOk,hρ2]
    exact⟨a1,a2,a3,fun o h=>a4 o (by rw[←a2]at h ⊢;exact hS a1 o h)⟩
   |lpx l=>
    obtain⟨a1,a2,a3,a4⟩:=hok
    simp only[shiftB,BlkOk,hρ2]
    exact⟨a1,a2,a3,fun o h=>a4 o (by rw[←a2]at h ⊢;exact hS a1 o h)⟩
 ·simp only[κ',length_append,length_map]at hb hb'
  by_cases q1:b<n<;>by_cases q2:b'<n
  ·rw[hρ1 b q1]at hn e;rw[hρ1 b' q2]at hn' e;exact hc.inj b b' q1 q2 hn hn' e
  ·obtain⟨b1,rfl⟩: ∃b1,b'=n+b1:=⟨b'-n,by omega⟩
   rw[hρ1 b q1]at hn e;rw[hρ2]at hn' e
   have:=hc.lt b q1 hn
   have:=hown _ ⟨b1,by omega,hn',rfl⟩
   omega
  ·obtain⟨b1,rfl⟩: ∃b1,b=n+b1:=⟨b-n,by omega⟩
   rw[hρ1 b' q2]at hn' e;rw[hρ2]at hn e
   have:=hc.lt b' q2 hn'
   have:=hown _ ⟨b1,by omega,hn,rfl⟩
   omega
  ·obtain⟨b1,rfl⟩: ∃b1,b=n+b1:=⟨b-n,by omega⟩
   obtain⟨b2,rfl⟩: ∃b2,b'=n+b2:=⟨b'-n,by omega⟩
   rw[hρ2]at hn hn' e
   rw[hρ2]at e
   have:=hc2.inj b1 b2 (by omega) (by omega) hn hn' e
   omega
 ·simp only[κ',length_append,length_map]at hb
  by_cases q1:b<n
  ·rw[hρ1 b q1]at hn ⊢;exact Nat.lt_of_lt_of_le (hc.lt b q1 hn) hs.size
  ·obtain⟨b1,rfl⟩: ∃b1,b=n+b1:=⟨b-n,by omega⟩
   rw[hρ2]at hn ⊢
   exact hc2.lt b1 (by omega) hn
 ·rcases h1 g o h with h|h
  ·exact Nat.lt_of_lt_of_le (hc.swf g o h) hs.size
  ·exact hc2.swf g o h.2
 ·refine { hk with os:=hs.os,tape:=hs.tape,output:=hs.output,size:=hs.size,frame:=fun g hg _=>hframe g hg,snew:=fun g o h=>(h1 g o h).imp id (fun h=> .inl h.1),own:=?_ }
  rintro g ⟨b,hb,hn,e⟩
  simp only[κ',length_append,length_map]at hb
  by_cases q1:b<n
  ·rw[hρ1 b q1]at hn e;exact .inl ⟨b,q1,hn,e⟩
  ·obtain⟨b1,rfl⟩: ∃b1,b=n+b1:=⟨b-n,by omega⟩
   rw[hρ2]at hn e
   exact .inr (by rw[←e];exact hown _ ⟨b1,by omega,hn,rfl⟩)
theorem take_over{κ κ'':Cx}(hc:Conc κ){S0:Nat→Nat→Prop}(hs:StepM { S:=S0,w:=κ.w,ρ:=κ.ρ,H:=[] } κ'')(hc2:Conc κ'')(S':Nat→Nat→Prop)
  (h0: ∀g o,κ.S g o→S0 g o∧S' g o) (h1: ∀g o,S' g o→κ.S g o∨(κ.w.heap.size≤g∧κ''.S g o)) (r:AV) (c:Value) (hv:V κ'' r c)
  (hp:(safeV r=true∧safeH κ''.H)∨ ∀v c,PV κ''.S κ''.w v c→PV S' κ''.w v c):
  ∃κ',κ'.w=κ''.w∧κ'.H=κ.H++κ''.H.map (shiftB κ.H.length)∧Conc κ'∧StepM κ κ'∧V κ' (shiftV κ.H.length r) c:=by
 obtain⟨κ',_,h⟩:=take_overS hc hs hc2 S' h0 h1 r c hv hp
 exact⟨κ',h⟩
theorem HCH.pure{P:Program}{f:FuncId}{args:List AV}{Q:AV→Heap→Prop}(h:HCH P f args [] Q)(ha:AV.pureL args=true)(H:Heap):
  HCH P f args H fun r H'=> ∃r0 H0,Q r0 H0∧r=shiftV H.length r0∧H'=H++H0.map (shiftB H.length):=by
 refine⟨h.1,fun κ cargs hc hH hv=>?_⟩
 subst hH
 have hc0:Conc { S:=κ.S,w:=κ.w,ρ:=κ.ρ,H:=[] }:=⟨fun b x hb=>by simp at hb,fun b b' hb=>by simp at hb,fun b hb=>by simp at hb,hc.swf,hc.gl⟩
 refine(h.2 { S:=κ.S,w:=κ.w,ρ:=κ.ρ,H:=[] } cargs hc0 rfl (VL.of_pvl (κ:={ S:=κ.S,w:=κ.w,ρ:=κ.ρ,H:=[] }) _ _ (PVL.of_v (κ:=κ) _ _ ha hv))).mono ?_
 rintro e w' ⟨r,c,κ'',rfl,hq,rfl,k1,k2,k3⟩
 obtain⟨κ',q1,q2,q3,q4,q5⟩:=take_over hc k2 k1 κ''.S (fun g o hs=>⟨hs,(k2.s g o hs).1⟩) (fun g o hs=>(k2.snew g o hs).imp id (fun h=>h.elim (fun h=>⟨h,hs⟩) (fun⟨b,hb,_⟩=>by simp at hb))) r c k3 (.inr fun v c hv=>hv)
 exact⟨_,c,κ',rfl,⟨r,κ''.H,hq,rfl,q2⟩,q1,q3,q4,q5⟩
theorem HCH.freeze{P:Program}{f:FuncId}{args args':List AV}{Q:AV→Heap→Prop}(h:HCH P f args' [] Q){H:Heap}(ha:frzL H args args')(hq: ∀r H',Q r H'→safeV r=true∧safeH H'):
  HCH P f args H fun r H'=> ∃r0 H0,Q r0 H0∧r=shiftV H.length r0∧H'=H++H0.map (shiftB H.length):=by
 refine⟨h.1,fun κ cargs hc hH hv=>?_⟩
 subst hH
 have hc0:Conc { S:=sealed κ,w:=κ.w,ρ:=κ.ρ,H:=[] }:=⟨fun b x hb=>by simp at hb,fun b b' hb=>by simp at hb,fun b hb=>by simp at hb,fun g o hs=>hs.elim (hc.swf g o) (fun⟨b,h1,h2,h3⟩=>by rw[←h3];exact hc.lt b h1 h2),hc.gls (κ':={ S:=sealed κ,w:=κ.w,ρ:=κ.ρ,H:=[] }) fun g o hs=>⟨.inl hs,SameAt.refl⟩⟩
 refine(h.2 { S:=sealed κ,w:=κ.w,ρ:=κ.ρ,H:=[] } cargs hc0 rfl (VL.of_pvl (κ:={ S:=sealed κ,w:=κ.w,ρ:=κ.ρ,H:=[] }) _ _ (frzL_ok hc _ _ _ ha hv))).mono ?_
 rintro e w' ⟨r,c,κ'',rfl,hqq,rfl,k1,k2,k3⟩
 obtain⟨κ',q1,q2,q3,q4,q5⟩:=take_over hc k2 k1 (fun g o=>κ.S g o∨(κ.w.heap.size≤g∧κ''.S g o)) (fun g o hs=>⟨.inl hs,.inl hs⟩) (fun g o hs=>hs) r c k3 (.inl (hq r κ''.H hqq))
 exact⟨_,c,κ',rfl,⟨r,κ''.H,hqq,rfl,q2⟩,q1,q3,q4,q5⟩
end Go.Fl
namespace Go.Fl
open Go.RowKit
def PC(P:Program)(g:FuncId)(args:List AV)(v:AV):Prop:=HCH P g args [] fun r H=>r=v∧H=[]
mutual
theorem shiftV_pure(n:Nat): ∀v:AV,v.pure=true→shiftV n v=v
 | .agg cs,h=>by rw[shiftV,shiftL_pure n cs (by simpa[AV.pure]using h)]
 | .tup cs,h=>by rw[shiftV,shiftL_pure n cs (by simpa[AV.pure]using h)]
 | .fn _ cs,h=>by rw[shiftV,shiftL_pure n cs (by simpa[AV.pure]using h)]
 | .bf _ cs,h=>by rw[shiftV,shiftL_pure n cs (by simpa[AV.pure]using h)]
 | .row _ _,h=>by simp[AV.pure]at h
 | .lp _ _,h=>by simp[AV.pure]at h
 | .rp _ _ _ _,h=>by simp[AV.pure]at h
 | .rg _ _ _,h=>by simp[AV.pure]at h
 | .yld _,h=>by simp[AV.pure]at h
 | .mp _,h=>by simp[AV.pure]at h
 | .val _,h=>by simp[AV.pure]at h
 | .pm _ _ _ _,_=>by simp[shiftV]
 | .alt _,_=>by simp[shiftV]
 | .lf _,_=>by simp[shiftV]
 | .ifc _ cs,h=>by rw[shiftV,shiftL_pure n cs (by simpa[AV.pure]using h)]
 | .any,_=>by simp[shiftV]
 | .int _ _,_=>by simp[shiftV]
 | .bool _,_=>by simp[shiftV]
 | .nilS,_=>by simp[shiftV]
 | .nilP,_=>by simp[shiftV]
 | .nilF,_=>by simp[shiftV]
 | .lst _ _ _,_=>by simp[shiftV]
 | .pp _,_=>by simp[shiftV]
theorem shiftL_pure(n:Nat): ∀vs:List AV,AV.pureL vs=true→shiftL n vs=vs
 |[],_=>by simp[shiftL]
 |v::vs,h=>by
  simp only[AV.pureL,Bool.and_eq_true]at h
  rw[shiftL,shiftV_pure n v h.1,shiftL_pure n vs h.2]
end
def pureE(es:List (List AV)):Prop:= ∀e∈es,AV.pureL e=true
theorem pureE_nil:pureE []=True:=by simp[pureE]
theorem pureE_cons{e:List AV}{es:List (List AV)}:pureE (e::es)=(AV.pureL e=true∧pureE es):=by simp[pureE]
theorem pureE_append{a b:List (List AV)}:pureE (a++b)=(pureE a∧pureE b):=by
 simp only[pureE,List.mem_append,eq_iff_iff]
 exact⟨fun h=>⟨fun e he=>h e (.inl he),fun e he=>h e (.inr he)⟩,fun h e he=>he.elim (h.1 e) (h.2 e)⟩
theorem pureE_map{α:Type}{f:α→List AV}{l:List α}(h: ∀x,AV.pureL (f x)=true):pureE (l.map f)=True:=by
 simp only[pureE,eq_iff_iff,iff_true]
 intro e he
 obtain⟨x,_,rfl⟩:=List.mem_map.1 he
 exact h x
mutual
theorem frz_self(H:Heap): ∀v:AV,v.pure=true→frz H v v
 | .agg cs,h=>frzL_self H cs (by simpa[AV.pure]using h)
 | .tup cs,h=>frzL_self H cs (by simpa[AV.pure]using h)
 | .fn _ cs,h=>⟨rfl,frzL_self H cs (by simpa[AV.pure]using h)⟩
 | .bf _ cs,h=>⟨rfl,frzL_self H cs (by simpa[AV.pure]using h)⟩
 | .row _ _,h=>by simp[AV.pure]at h
 | .lp _ _,h=>by simp[AV.pure]at h
 | .rp _ _ _ _,h=>by simp[AV.pure]at h
 | .rg _ _ _,h=>by simp[AV.pure]at h
 | .yld _,h=>by simp[AV.pure]at h
 | .mp _,h=>by simp[AV.pure]at h
 | .val _,h=>by simp[AV.pure]at h
 | .pm _ _ _ _,_=>⟨rfl,rfl,rfl,rfl⟩
 | .alt _,_=>rfl
 | .lf _,_=>rfl
 | .ifc _ cs,h=>⟨rfl,frzL_self H cs (by simpa[AV.pure]using h)⟩
 | .any,_=>trivial
 | .int _ _,_=>rfl
 | .bool _,_=>rfl
 | .nilS,_=>rfl
 | .nilP,_=>rfl
 | .nilF,_=>rfl
 | .lst _ _ _,_=>⟨rfl,rfl,id⟩
 | .pp _,_=>rfl
theorem frzL_self(H:Heap): ∀vs:List AV,AV.pureL vs=true→frzL H vs vs
 |[],_=>rfl
 |v::vs,h=>by
  simp only[AV.pureL,Bool.and_eq_true]at h
  exact⟨frz_self H v h.1,frzL_self H vs h.2⟩
end
theorem frzE_self(H:Heap): ∀es:List (List AV),pureE es→frzE H es es
 |[],_=>rfl
 |e::es,h=>⟨frzL_self H e (h e (by simp)),frzE_self H es fun x hx=>h x (by simp[hx])⟩
theorem frzE_same{H:Heap}{es:List (List AV)}(h:pureE es):frzE H es es=True:=by simp[frzE_self H es h]
section
variable (hop:List AV→List AV) (H:Heap)
mutual
def frV:AV→AV
 | .agg cs=> .agg (frL cs)
 | .tup cs=> .tup (frL cs)
 | .fn f cs=> .fn f (frL cs)
 | .bf f cs=> .bf f (frL cs)
 | .row b _=>match H[b]? with
  |some (.row _ sz es _)=> .lst false sz es
  |_=> .any
 | .lp b off=>match H[b]? with
  |some (.box _ cs _)=> .pp (hop (cs.drop off))
  |_=> .any
 | .rp _ _ _ _=> .any
 | .rg b n _=>match H[b]? with
  |some (.rg _ sz es _)=> .lst false sz (es.take n)
  |_=> .any
 | .yld _=> .any
 | .val _=> .any
 | .mp g=>match findM H g with
  |some (_,P,t,q,_,f)=> .pm P t q f
  |none=> .any
 | .pm a b c d=> .pm a b c d
 | .alt a=> .alt a
 | .lf a=> .lf a
 | .ifc f cs=> .ifc f (frL cs)
 | .lst _ sz es=> .lst false sz es
 | .any=> .any
 | .int k n=> .int k n
 | .bool b=> .bool b
 | .nilS=> .nilS
 | .nilP=> .nilP
 | .nilF=> .nilF
 | .pp cs=> .pp cs
def frL:List AV→List AV
 |[]=>[]
 |v::vs=>frV v::frL vs
end
end
def hop0(cs:List AV):List AV:=cs.map fun _=> .any
def hop1(H:Heap)(cs:List AV):List AV:=frL hop0 H cs
def hop2(H:Heap)(cs:List AV):List AV:=frL (hop1 H) H cs
def frA(H:Heap)(vs:List AV):List AV:=frL (hop2 H) H vs
def HandsOn(H:Heap)(args args':List AV)(v:AV):Prop:=(AV.pureL args=true∧frzL [] args args')∨(frzL H args args'∧safeV v=true)
theorem PC.use{P:Program}{g:FuncId}{args args':List AV}{v:AV}{H:Heap}(h:PC P g args' v)(hh:HandsOn H args args' v)(hv:v.pure=true):HCH P g args H fun r H'=>r=v∧H'=H:=by
 rcases hh with⟨hp,hf⟩|⟨hf,hs⟩
 ·have h1:HCH P g args [] fun r H=>r=v∧H=[]:=by
   refine⟨h.1,fun κ cargs hc hH hvl=>h.2 κ cargs hc hH ?_⟩
   have:=frzL_ok hc _ _ _ (by rw[hH];exact hf) hvl
   refine VL.of_pvl (κ:=κ) _ _ (PVL.mono (S:=sealed κ) (fun g o hs=>⟨hs.elim id (fun⟨b,hb,_⟩=>by rw[hH]at hb;simp at hb),SameAt.refl⟩) _ _ this)
  refine(h1.pure hp H).mono ?_
  rintro r H' ⟨r0,H0,⟨rfl,rfl⟩,rfl,rfl⟩
  exact⟨shiftV_pure _ _ hv,by simp⟩
 ·refine(h.freeze hf (fun r H' ⟨e,e2⟩=>by subst e;subst e2;exact⟨hs,trivial⟩)).mono ?_
  rintro r H' ⟨r0,H0,⟨rfl,rfl⟩,rfl,rfl⟩
  exact⟨shiftV_pure _ _ hv,by simp⟩
def vcP(P:Program)(nt m:Nat)(R:Exit→St→Prop)(g:FuncId)(args args':List AV)(dst:Option Nat)(rest:List COp)(k:List Iv)(st:St):Prop:=vcC P nt m R g args dst rest k st
theorem vcC_read{P:Program}{nt m:Nat}{R:Exit→St→Prop}{g:FuncId}{args:List AV}{dst:Option Nat}{rest:List COp}{k:List Iv}{st:St}:vcC P nt m R g args dst rest k st=vcP P nt m R g args (frA st.H args) dst rest k st:=rfl
section
variable {P:Program} {nt m:Nat} {R:Exit→St→Prop} {g:FuncId} {args args':List AV} {dst:Option Nat} {rest:List COp} {k:List Iv} {env:Env} {H:Heap}
theorem vcP_raw(h:HCH P g args H fun r H'=>vc P nt m R (.ops rest::k) ⟨eput env dst r,H'⟩):vcP P nt m R g args args' dst rest k ⟨env,H⟩:=by unfold vcP vcC;exact h
theorem vcP_pc{v:AV}(hc:PC P g args' v)(hv:v.pure=true)(hh:HandsOn H args args' v)(h:vc P nt m R (.ops rest::k) ⟨eput env dst v,H⟩):vcP P nt m R g args args' dst rest k ⟨env,H⟩:=
 vcP_raw ((hc.use hh hv).mono (by rintro r H' ⟨rfl,rfl⟩;exact h))
end
theorem frA_def{H:Heap}{vs:List AV}:frA H vs=frL (hop2 H) H vs:=rfl
attribute [irreducible] vcP HandsOn PC
theorem handsOn_pure{H:Heap}{args args':List AV}{v:AV}(h:AV.pureL args=true)(hf:frzL [] args args'):HandsOn H args args' v:=by unfold HandsOn;exact .inl ⟨h,hf⟩
theorem handsOn_safe{H:Heap}{args args':List AV}{v:AV}(h:safeV v=true)(hf:frzL H args args'):HandsOn H args args' v:=by unfold HandsOn;exact .inr ⟨hf,h⟩
theorem PC.mk{P:Program}{g:FuncId}{args:List AV}{v:AV}(h:HCH P g args [] fun r H=>r=v∧H=[]):PC P g args v:=by unfold PC;exact h
theorem PC.raw{P:Program}{g:FuncId}{args:List AV}{v:AV}(h:PC P g args v):HCH P g args [] fun r H=>r=v∧H=[]:=by unfold PC at h;exact h
attribute [go_sem] vcC_read frA_def frV frL hop0 hop1 hop2 frz frzL frzE frzE_same pureE_nil pureE_cons pureE_append safeV safeL
section
variable (b n:Nat) (l:AV)
mutual
def subV:AV→AV
 | .row b' n'=>if b'=b∧n'=n then l else .row b' n'
 | .agg cs=> .agg (subL cs)
 | .tup cs=> .tup (subL cs)
 | .fn f cs=> .fn f (subL cs)
 | .bf f cs=> .bf f (subL cs)
 | .any=> .any
 | .int k m=> .int k m
 | .bool t=> .bool t
 | .nilS=> .nilS
 | .nilP=> .nilP
 | .nilF=> .nilF
 | .lst f sz es=> .lst f sz es
 | .pp cs=> .pp cs
 | .lp b' o=> .lp b' o
 | .rp b' k i o=> .rp b' k i o
 | .rg b' k g=> .rg b' k g
 | .yld k=> .yld k
 | .mp k=> .mp k
 | .val k=> .val k
 | .pm a b c d=> .pm a b c d
 | .alt a=> .alt a
 | .lf a=> .lf a
 | .ifc f cs=> .ifc f (subL cs)
def subL:List AV→List AV
 |[]=>[]
 |v::vs=>subV v::subL vs
end
def subEnv(env:Env):Env:=env.map fun p=>(p.1,subV b n l p.2)
def subB:Blk→Blk
 | .box ty cs sl=> .box ty (subL b n l cs) sl
 | .row el sz es sl=> .row el sz (es.map (subL b n l)) sl
 | .rg el sz es g=> .rg el sz (es.map (subL b n l)) g
 | .loop i nt ps assign body env=> .loop i nt ps assign body (subEnv b n l env)
 | .mp P g t q n f=> .mp P g t q n f
 | .raw g k=> .raw g k
 | .lpx l=> .lpx l
 | .lpe l c=> .lpe l c
 | .gone=> .gone
end
theorem eget_subEnv(b n:Nat)(l:AV): ∀(env:Env) (t:Nat),eget (subEnv b n l env) t=subV b n l (eget env t)
 |[],t=>by simp[subEnv,eget,subV]
 |(k,v)::r,t=>by
  have:=eget_subEnv b n l r t
  simp only[subEnv]at this
  simp only[subEnv,map_cons,eget_cons]
  split
  ·rfl
  ·exact this
theorem subL_length(b n:Nat)(l:AV): ∀vs:List AV,(subL b n l vs).length=vs.length
 |[]=>rfl
 |_::vs=>by simp[subL,subL_length b n l vs]
theorem subL_append(b n:Nat)(l:AV): ∀a c:List AV,subL b n l (a++c)=subL b n l a++subL b n l c
 |[],c=>rfl
 |v::a,c=>by simp[subL,subL_append b n l a c]
theorem subL_flatten(b n:Nat)(l:AV): ∀es:List (List AV),(es.map (subL b n l)).flatten=subL b n l es.flatten
 |[]=>rfl
 |e::es=>by simp[subL_append,subL_flatten b n l es]
mutual
theorem subV_pure(b n:Nat)(l:AV): ∀v:AV,v.pure=true→subV b n l v=v
 | .agg cs,h=>by rw[subV,subL_pure b n l cs (by simpa[AV.pure]using h)]
 | .tup cs,h=>by rw[subV,subL_pure b n l cs (by simpa[AV.pure]using h)]
 | .fn _ cs,h=>by rw[subV,subL_pure b n l cs (by simpa[AV.pure]using h)]
 | .bf _ cs,h=>by rw[subV,subL_pure b n l cs (by simpa[AV.pure]using h)]
 | .row _ _,h=>by simp[AV.pure]at h
 | .lp _ _,h=>by simp[AV.pure]at h
 | .rp _ _ _ _,h=>by simp[AV.pure]at h
 | .rg _ _ _,h=>by simp[AV.pure]at h
 | .yld _,h=>by simp[AV.pure]at h
 | .mp _,h=>by simp[AV.pure]at h
 | .val _,h=>by simp[AV.pure]at h
 | .pm _ _ _ _,_=>by simp[subV]
 | .alt _,_=>by simp[subV]
 | .lf _,_=>by simp[subV]
 | .ifc _ cs,h=>by rw[subV,subL_pure b n l cs (by simpa[AV.pure]using h)]
 | .any,_=>by simp[subV]
 | .int _ _,_=>by simp[subV]
 | .bool _,_=>by simp[subV]
 | .nilS,_=>by simp[subV]
 | .nilP,_=>by simp[subV]
 | .nilF,_=>by simp[subV]
 | .lst _ _ _,_=>by simp[subV]
 | .pp _,_=>by simp[subV]
theorem subL_pure(b n:Nat)(l:AV): ∀vs:List AV,AV.pureL vs=true→subL b n l vs=vs
 |[],_=>by simp[subL]
 |v::vs,h=>by
  simp only[AV.pureL,Bool.and_eq_true]at h
  rw[subL,subV_pure b n l v h.1,subL_pure b n l vs h.2]
end
section
variable {κ:Cx} (hc:Conc κ) {b:Nat} {el:TypeId} {sz:Nat} {es:List (List AV)} {sl:Bool} (hb:κ.H[b]? =some (.row el sz es sl)) (hp:pureE es)
def sealS(κ:Cx)(b k:Nat)(g o:Nat):Prop:=κ.S g o∨((κ.ρ b).isNil=false∧g=(κ.ρ b).blk∧o<k)
def sealH(b:Nat)(el:TypeId)(sz:Nat)(es:List (List AV))(H:Heap):Heap:=(H.map (subB b es.length (.lst false sz es))).set b (.row el sz es true)
def sealC(κ:Cx)(b:Nat)(el:TypeId)(sz:Nat)(es:List (List AV)):Cx:={ S:=sealS κ b (es.length*sz),w:=κ.w,ρ:=κ.ρ,H:=sealH b el sz es κ.H }
theorem pureL_flatten: ∀{es:List (List AV)},pureE es→AV.pureL es.flatten=true
 |[],_=>rfl
 |e::es,h=>by
  have app: ∀(a c:List AV),AV.pureL a=true→AV.pureL c=true→AV.pureL (a++c)=true:=by
   intro a c ha hc
   induction a with
   |nil=>exact hc
   |cons x a ih=>simp only[AV.pureL,Bool.and_eq_true,cons_append]at ha ⊢;exact⟨ha.1,ih ha.2⟩
  rw[flatten_cons]
  exact app _ _ (h e (by simp)) (pureL_flatten fun x hx=>h x (by simp[hx]))
include hc hb hp
theorem seal_row:PV (sealS κ b (es.length*sz)) κ.w (.lst false sz es) (rowVal (κ.ρ b) es.length):=by
 obtain⟨hsz,hes,hnil,hrow⟩:=hc.blk b _ hb
 cases hq:(κ.ρ b).isNil with
 |true=>
  obtain⟨h1,h2⟩:=hnil hq
  subst h2
  refine⟨(κ.ρ b).adr,0,by simp[rowVal,hq,h1],by simp,by simp[maxLen],fun _=>rfl,fun ad ha=>⟨fun hne=>absurd rfl hne,trivial⟩,fun _=>rfl,by simp⟩
 |false=>
  obtain⟨⟨cur,a1,a2,a3,a4,a5,a6⟩,_⟩:=hrow hq
  refine⟨some ⟨(κ.ρ b).blk,0,none⟩,(κ.ρ b).cap,by simp[rowVal,hq],by omega,a4,(fun e=>by cases e),fun ad ha=>?_,(fun e=>by cases e),hes⟩
  cases ha
  have hpv:=PVL.mono (S':=sealS κ b (es.length*sz)) (w':=κ.w) (fun g o hs=>⟨.inl hs,SameAt.refl⟩) _ _ (PVL.of_v _ _ (pureL_flatten hp) a5)
  refine⟨fun _=>rfl,pve_of_cells es _ rfl hes (pvc_of _ _ 0 hpv a6 (fun j u hu=>?_))⟩
  rw[getElem?_take]at hu
  split at hu
  ·rename_i hj
   refine⟨?_,.inr ⟨hq,rfl,by simpa using hj⟩⟩
   rw[Nat.zero_add,cell_of_row κ.w _ j cur el (0,0) a1]
   simpa using hu
  ·cases hu
theorem sealH_get{b':Nat}:(sealC κ b el sz es).H[b']? =if b'=b then some (.row el sz es true)else(κ.H[b']?).map (subB b es.length (.lst false sz es)):=by
 have hlt:=(List.getElem?_eq_some_iff.1 hb).1
 simp only[sealC,sealH,List.getElem?_set,length_map,getElem?_map]
 by_cases e:b=b'
 ·subst e;simp[hlt]
 ·rw[if_neg e,if_neg (fun h=>e h.symm)]
mutual
theorem V.sld: ∀(v:AV) (c:Value),V κ v c→V (sealC κ b el sz es) (subV b es.length (.lst false sz es) v) c
 | .row b' n',c,hv=>by
  rw[subV]
  split
  ·rename_i e
   obtain⟨rfl,rfl⟩:=e
   obtain⟨_,el',sz',es2,sl',hb',hle,e⟩:=hv
   rw[hb]at hb';cases hb'
   rw[e rfl]
   exact seal_row hc hb hp
  ·obtain⟨h0,el',sz',es2,sl',hb',hle,e⟩:=hv
   have hg:=sealH_get hc hb hp (b':=b')
   by_cases hbb:b'=b
   ·subst hbb
    rw[hb]at hb';cases hb'
    rw[if_pos rfl]at hg
    exact⟨h0,_,_,_,_,hg,hle,e⟩
   ·rw[if_neg hbb,hb']at hg
    exact⟨h0,_,_,_,_,hg,by simpa using hle,fun e2=>e (by simpa using e2)⟩
 | .agg cs,_,⟨a,e,hl⟩=>⟨a,e,VL.sld cs _ hl⟩
 | .tup cs,_,⟨a,e,hl⟩=>⟨a,e,VL.sld cs _ hl⟩
 | .fn _ cs,_,⟨a,e,hl⟩=>⟨a,e,VL.sld cs _ hl⟩
 | .bf _ cs,_,⟨a,e,hl⟩=>⟨a,e,VL.sld cs _ hl⟩
 | .any,_,_=>trivial
 | .int _ _,_,hv=>hv
 | .bool _,_,hv=>hv
 | .nilS,_,hv=>hv
 | .nilP,_,hv=>hv
 | .nilF,_,hv=>hv
 | .lst f sz2 es2,c,hv=>PV.mono (S:=κ.S) (S':=sealS κ b (es.length*sz)) (w':=κ.w) (fun g o hs=>⟨.inl hs,SameAt.refl⟩) (.lst f sz2 es2) c hv
 | .pp cs,c,hv=>PV.mono (S:=κ.S) (S':=sealS κ b (es.length*sz)) (w':=κ.w) (fun g o hs=>⟨.inl hs,SameAt.refl⟩) (.pp cs) c hv
 | .lp b' off,c,hv=>by
  obtain⟨ty,cs,sl',hb',e⟩:=hv
  have hg:=sealH_get hc hb hp (b':=b')
  have hbb:b'≠b:=fun e=>by subst e;rw[hb]at hb';cases hb'
  rw[if_neg hbb,hb']at hg
  exact⟨_,_,_,hg,e⟩
 | .rp b' n' i off,c,hv=>by
  obtain⟨h0,el',sz',es2,sl',hb',hle,e⟩:=hv
  have hg:=sealH_get hc hb hp (b':=b')
  by_cases hbb:b'=b
  ·subst hbb
   rw[hb]at hb';cases hb'
   rw[if_pos rfl]at hg
   exact⟨h0,_,_,_,_,hg,hle,e⟩
  ·rw[if_neg hbb,hb']at hg
   exact⟨h0,_,_,_,_,hg,by simpa using hle,fun e2=>e (by simpa using e2)⟩
 | .rg b' n' g,c,hv=>by
  obtain⟨h0,el',sz',es2,g',hb',hle,e⟩:=hv
  have hg:=sealH_get hc hb hp (b':=b')
  have hbb:b'≠b:=fun e=>by subst e;rw[hb]at hb';cases hb'
  rw[if_neg hbb,hb']at hg
  exact⟨h0,_,_,_,_,hg,hle,fun e2=>⟨by rw[length_map];exact(e e2).1,(e e2).2⟩⟩
 | .yld _,_,hv=>hv
 | .mp _,_,hv=>hv
 | .val _,_,hv=>hv
 | .lf _,_,hv=>hv
 | .ifc _ cs,_,⟨a,e,hl⟩=>⟨a,e,VL.sld cs _ hl⟩
 | .alt a,c,hv=>PV.mono (S:=κ.S) (S':=sealS κ b (es.length*sz)) (w':=κ.w) (fun g o hs=>⟨.inl hs,SameAt.refl⟩) (.alt a) c hv
 | .pm P' t q f,c,hv=>PV.mono (S:=κ.S) (S':=sealS κ b (es.length*sz)) (w':=κ.w) (fun g o hs=>⟨.inl hs,SameAt.refl⟩) (.pm P' t q f) c hv
theorem VL.sld: ∀(vs:List AV) (l:List Value),VL κ vs l→VL (sealC κ b el sz es) (subL b es.length (.lst false sz es) vs) l
 |[],_,hv=>hv
 |v::vs,_,⟨c,cs,e,h1,h2⟩=>⟨c,cs,e,V.sld v c h1,VL.sld vs cs h2⟩
end
theorem Conc.sealRow:Conc (sealC κ b el sz es):=by
 have hlt:=(List.getElem?_eq_some_iff.1 hb).1
 have hlen:(sealC κ b el sz es).H.length=κ.H.length:=by simp[sealC,sealH]
 refine⟨fun b' x hx=>?_,fun c d h1 h2=>?_,fun c h1=>?_,fun g o hs=>?_,hc.gls (κ':=sealC κ b el sz es) fun g o hs=>⟨.inl hs,SameAt.refl⟩⟩
 ·rw[sealH_get hc hb hp]at hx
  by_cases hbb:b'=b
  ·subst hbb
   rw[if_pos rfl]at hx
   cases hx
   obtain⟨h1,h2,h3,h4⟩:=hc.blk _ _ hb
   refine⟨h1,h2,h3,fun hn=>?_⟩
   obtain⟨⟨cur,a1,a2,a3,a4,a5,a6⟩,d1,d2⟩:=h4 hn
   refine⟨⟨cur,a1,a2,a3,a4,?_,a6⟩,fun o ho hs=>?_,fun e=>by cases e⟩
   ·have:=VL.sld hc hb hp _ _ a5
    rwa[subL_pure _ _ _ _ (pureL_flatten hp)]at this
   ·rcases hs with hs|⟨_,_,hs⟩
    ·exact d1 o ho hs
    ·omega
  ·rw[if_neg hbb]at hx
   obtain⟨x0,hx0,rfl⟩:=Option.map_eq_some_iff.1 hx
   have hb'l:=(List.getElem?_eq_some_iff.1 hx0).1
   have hno:(κ.ρ b').isNil=false→ ∀o,(sealC κ b el sz es).S (κ.ρ b').blk o→κ.S (κ.ρ b').blk o:=fun hn o hs=>by
    rcases hs with hs|⟨q1,q2,_⟩
    ·exact hs
    ·exact absurd (hc.inj b' b hb'l hlt hn q1 q2) hbb
   have hok:=hc.blk b' x0 hx0
   cases x0 with
   |box ty cs sl=>
    obtain⟨a1,cur,a2,a3,a4,a5⟩:=hok
    exact⟨a1,cur,a2,VL.sld hc hb hp _ _ a3,a4,fun e o hs=>a5 e o (hno a1 o hs)⟩
   |row el' sz' es2 sl'=>
    obtain⟨h1,h2,h3,h4⟩:=hok
    refine⟨h1,fun e he=>?_,fun hn=>⟨(h3 hn).1,by rw[(h3 hn).2];rfl⟩,fun hn=>?_⟩
    ·obtain⟨e0,h,rfl⟩:=List.mem_map.1 he
     rw[subL_length];exact h2 e0 h
    ·obtain⟨⟨cur,a1,a2,a3,a4,a5,a6⟩,d1,d2⟩:=h4 hn
     refine⟨⟨cur,a1,a2,by rw[length_map];exact a3,a4,?_,by rw[length_map];exact a6⟩,fun o ho hs=>d1 o (by rw[length_map]at ho;exact ho) (hno hn o hs),fun e o hs=>d2 e o (hno hn o hs)⟩
     have:=VL.sld hc hb hp _ _ a5
     rw[subL_flatten];simpa using this
   |rg el' sz' es2 g=>
    obtain⟨h1,h2,h3,h4⟩:=hok
    refine⟨h1,fun e he=>?_,fun hn=>⟨(h3 hn).1,by rw[(h3 hn).2];rfl⟩,fun hn=>?_⟩
    ·obtain⟨e0,h,rfl⟩:=List.mem_map.1 he
     rw[subL_length];exact h2 e0 h
    ·obtain⟨⟨cur,a1,a2,a3,a4,a5,a6⟩,d2⟩:=h4 hn
     refine⟨⟨cur,a1,a2,by rw[length_map];exact a3,a4,?_,by rw[length_map];exact a6⟩,fun o hs=>d2 o (hno hn o hs)⟩
     have:=VL.sld hc hb hp _ _ a5
     rw[subL_flatten];simpa using this
   |loop i nt ps assign body env=>
    obtain⟨a1,a2,fn,tmps,dfr,a3,a4,a5,a6⟩:=hok
    exact⟨a1,a2,fn,tmps,dfr,a3,a4,fun t=>by rw[eget_subEnv];exact V.sld hc hb hp _ _ (a5 t),fun o hs=>a6 o (by rw[←a2]at hs ⊢;exact hno a1 o hs)⟩
   |mp P' g' t' q' n' f'=>
    obtain⟨a1,a2,a3,a4⟩:=hok
    exact⟨a1,a2,a3,fun o hs=>a4 o (by rw[←a2]at hs ⊢;exact hno a1 o hs)⟩
   |raw g' k'=>
    obtain⟨a1,a2,a3,a4⟩:=hok
    exact⟨a1,a2,a3,fun o hs=>a4 o (by rw[←a2]at hs ⊢;exact hno a1 o hs)⟩
   |gone=>exact hok
   |lpe i c=>
    obtain⟨a1,a2,a3,a4⟩:=hok
    exact⟨a1,a2,a3,fun o hs=>a4 o (by rw[←a2]at hs ⊢;exact hno a1 o hs)⟩
   |lpx i=>
    obtain⟨a1,a2,a3,a4⟩:=hok
    exact⟨a1,a2,a3,fun o hs=>a4 o (by rw[←a2]at hs ⊢;exact hno a1 o hs)⟩
 ·rw[hlen]at h1 h2;exact hc.inj c d h1 h2
 ·rw[hlen]at h1;exact hc.lt c h1
 ·rcases hs with hs|⟨q1,q2,_⟩
  ·exact hc.swf g o hs
  ·rw[q2];exact hc.lt b hlt q1
theorem StepM.sealRow{E:Cx}(h:StepM E κ):StepM E (sealC κ b el sz es):=by
 have hlt:=(List.getElem?_eq_some_iff.1 hb).1
 have hlen:(sealC κ b el sz es).H.length=κ.H.length:=by simp[sealC,sealH]
 have hg:=fun b'=>sealH_get hc hb hp (b':=b')
 refine { s:=fun g o hs=>⟨.inl (h.s g o hs).1,(h.s g o hs).2⟩,box:=fun b' ty cs sl hb'=>?_,row:=fun b' el' sz' es2 sl hb'=>?_,rg:=fun b' el' sz' es2 g hb'=>(by
  obtain⟨es',g',e1,e2,e3⟩:=h.rg b' el' sz' es2 g hb'
  have hbb:b'≠b:=fun e=>by subst e;rw[hb]at e1;cases e1
  have:=hg b'
  rw[if_neg hbb,e1]at this
  exact⟨_,_,this,e2,fun e=>⟨by rw[length_map];exact(e3 e).1,(e3 e).2⟩⟩),os:=h.os,tape:=h.tape,output:=h.output,size:=h.size,frame:=h.frame,snew:=fun g o hs=>?_,own:=fun g ⟨b',h1,h2⟩=>h.own g ⟨b',by rw[hlen]at h1;exact h1,h2⟩ }
 ·obtain⟨e1,cs',sl',e2⟩:=h.box b' ty cs sl hb'
  have hbb:b'≠b:=fun e=>by subst e;rw[hb]at e2;cases e2
  have:=hg b'
  rw[if_neg hbb,e2]at this
  exact⟨e1,_,_,this⟩
 ·obtain⟨es',sl',e1,e2,e3⟩:=h.row b' el' sz' es2 sl hb'
  have:=hg b'
  by_cases hbb:b'=b
  ·subst hbb
   rw[hb]at e1;cases e1
   rw[if_pos rfl]at this
   exact⟨_,_,this,e2,e3⟩
  ·rw[if_neg hbb,e1]at this
   exact⟨_,_,this,by simpa using e2,fun e=>e3 (by simpa using e)⟩
 ·rcases hs with hs|⟨q1,q2,_⟩
  ·exact h.snew g o hs
  ·exact .inr ((h.own g ⟨b,hlt,q1,q2.symm⟩).symm)
end
def Sld(v1:AV)(H1:Heap)(v:AV)(H:Heap):Prop:=(v=v1∧H=H1)∨ ∃b el sz es sl,v1= .row b es.length∧H1[b]? =some (.row el sz es sl)∧pureE es∧v= .lst false sz es∧H=sealH b el sz es H1
theorem Sld.step{κ κ':Cx}{v1 v:AV}{H1 H:Heap}{c:Value}(h:Sld v1 H1 v H)(hH:κ'.H=H1)(hc:Conc κ')(hs:StepM κ κ')(hv:V κ' v1 c): ∃κ'':Cx,κ''.w=κ'.w∧κ''.H=H∧Conc κ''∧StepM κ κ''∧V κ'' v c:=by
 subst hH
 rcases h with⟨rfl,rfl⟩|⟨b,el,sz,es,sl,rfl,hb,hp,rfl,rfl⟩
 ·exact⟨κ',rfl,rfl,hc,hs,hv⟩
 ·refine⟨sealC κ' b el sz es,rfl,rfl,hc.sealRow hb hp,StepM.sealRow hc hb hp hs,?_⟩
  have:=V.sld hc hb hp _ _ hv
  rw[subV,if_pos ⟨rfl,rfl⟩]at this
  exact this
theorem intO_congr{env env':Env}{d:Int}: ∀{x:Option Operand},(∀y∈x.toArray.toList,evA env y=evA env' y)→intO env d x=intO env' d x
 |none,_=>rfl
 |some x,h=>by simp only[intO,h x (by simp[Option.toArray])]
theorem intOO_congr{env env':Env}: ∀{x:Option Operand},(∀y∈x.toArray.toList,evA env y=evA env' y)→intOO env x=intOO env' x
 |none,_=>rfl
 |some x,h=>by simp only[intOO,h x (by simp[Option.toArray])]
theorem evOp_congr(P:Program){env env':Env}(H:Heap)(op:Op)(h: ∀x∈op.operands.toList,evA env x=evA env' x):evOp P env H op=evOp P env' H op:=by
 cases op<;>try rfl
 case move x=>simp only[evOp,h x (by simp[Op.operands])]
 case assign x=>simp only[evOp,h x (by simp[Op.operands])]
 case pick a b c=>simp only[evOp,h a (by simp[Op.operands]),h b (by simp[Op.operands]),h c (by simp[Op.operands])]
 case box t x=>simp only[evOp,h x (by simp[Op.operands])]
 case build t ps=>
  have:(ps.toList.map fun p=>(p.1,evA env p.2))=ps.toList.map fun p=>(p.1,evA env' p.2):=map_congr_left fun p hp=>by rw[h p.2 (by simp only[Op.operands];exact List.mem_map.2 ⟨p,hp,rfl⟩)]
  simp only[evOp,this]
 case buildSlice t n ps=>
  have:(ps.toList.map fun p=>(p.1,evA env p.2))=ps.toList.map fun p=>(p.1,evA env' p.2):=map_congr_left fun p hp=>by rw[h p.2 (by simp only[Op.operands];exact List.mem_map.2 ⟨p,hp,rfl⟩)]
  simp only[evOp,this]
 case load t x=>simp only[evOp,h x (by simp[Op.operands])]
 case store t a x=>simp only[evOp,h a (by simp[Op.operands]),h x (by simp[Op.operands])]
 case nilCheck x=>simp only[evOp,h x (by simp[Op.operands])]
 case unOp o t x=>cases o<;>simp only[evOp,h x (by simp[Op.operands])]
 case binOp o t x y u=>simp only[evOp,h x (by simp[Op.operands]),h y (by simp[Op.operands])]
 case makeFunc a b c=>
  have:c.toList.map (evA env)=c.toList.map (evA env'):=map_congr_left fun x hx=>h x (by simp[Op.operands];exact .inr (by simpa using hx))
  have this2:b.toList.map (evA env)=b.toList.map (evA env'):=map_congr_left fun x hx=>h x (by simp[Op.operands];exact .inl (by simpa using hx))
  unfold evOp
  cases a<;>simp only[this,this2]
 case makeSlice t x y=>simp only[evOp,h x (by simp[Op.operands]),h y (by simp[Op.operands])]
 case slice t x lo hi mx=>
  simp only[evOp,h x (by simp[Op.operands]),intO_congr (d:=0) (x:=lo) fun y hy=>h y (by simp[Op.operands]at hy ⊢;simp[hy]),intOO_congr (x:=hi) fun y hy=>h y (by simp[Op.operands]at hy ⊢;simp[hy]),intOO_congr (x:=mx) fun y hy=>h y (by simp[Op.operands]at hy ⊢;simp[hy])]
 case fieldAddr t x f=>simp only[evOp,h x (by simp[Op.operands])]
 case convert s t x=>simp only[evOp,h x (by simp[Op.operands])]
 case field t x f=>simp only[evOp,h x (by simp[Op.operands])]
 case index t x i=>simp only[evOp,h x (by simp[Op.operands]),h i (by simp[Op.operands])]
 case indexAddr t x i=>simp only[evOp,h x (by simp[Op.operands]),h i (by simp[Op.operands])]
 case extract x i=>simp only[evOp,h x (by simp[Op.operands])]
 case makeInterface t x=>simp only[evOp,h x (by simp[Op.operands])]
 case mapEntry t m x=>simp only[evOp,h m (by simp[Op.operands]),h x (by simp[Op.operands])]
 case entryStore t m x v=>simp only[evOp,h m (by simp[Op.operands]),h x (by simp[Op.operands]),h v (by simp[Op.operands])]
 case entry x=>simp only[evOp,h x (by simp[Op.operands])]
 case lookup t m x ok=>simp only[evOp,h m (by simp[Op.operands]),h x (by simp[Op.operands])]
 case mapUpdate t m x v=>simp only[evOp,h m (by simp[Op.operands]),h x (by simp[Op.operands]),h v (by simp[Op.operands])]
 case call c=>
  obtain⟨cl,args,ats⟩:=c
  have hx: ∀x∈args.toList,evA env x=evA env' x:=fun x hx=>h x (by simp only[Op.operands];simp only[Call.operands];cases cl<;>simp<;>first|exact .inr (by simpa using hx)|simpa using hx)
  cases cl with
  |builtin b=>
   generalize hal:args.toList=al at hx
   have e1: ∀x r,al=x::r→evA env x=evA env' x:=fun x r e=>hx x (by simp[e])
   have e2: ∀x y r,al=x::y::r→evA env y=evA env' y:=fun x y r e=>hx y (by simp[e])
   cases b<;>simp only[evOp,hal]<;>try rfl
   all_goals
    rcases al with _|⟨x,_|⟨y,_|⟨z,r⟩⟩⟩<;>first|rfl|(simp only[e1 x _ rfl,e2 x y _ rfl];done)|(simp only[e1 x _ rfl];done)|(generalize ats.toList=tl;rcases tl with _|⟨t,_|⟨t',_|⟨t'',tl⟩⟩⟩<;>first|rfl|(simp only[e1 x _ rfl,e2 x y _ rfl];done)|(simp only[e1 x _ rfl];done))
  |_=>rfl
def opTmps(o:Oper):List Nat:=o.op.operands.toList.filterMap fun x=>match x with| .tmp t=>some t|_=>none
theorem evA_congr{o:Oper}{env env':Env}(h: ∀t∈opTmps o,eget env t=eget env' t): ∀x∈o.op.operands.toList,evA env x=evA env' x:=by
 intro x hx
 cases x with
 |tmp t=>exact h t (List.mem_filterMap.2 ⟨.tmp t,hx,rfl⟩)
 |_=>rfl
theorem Conc.alloc{κ:Cx}(h:Conc κ)(o:Obj):Conc { κ with w:=κ.w.alloc o }∧StepM κ { κ with w:=κ.w.alloc o }:=by
 have hold: ∀g,g<κ.w.heap.size→(κ.w.alloc o).heap[g]? =κ.w.heap[g]? :=fun g hg=>Below.heap_alloc _ _ _ hg
 have hk:Keep κ { κ with w:=κ.w.alloc o }:=⟨fun g k hs=>⟨hs,SameAt.of_block (hold g (h.swf g k hs))⟩,fun b ty cs sl hb=>⟨rfl,cs,sl,hb⟩,fun b el sz es sl hb=>⟨es,sl,hb,Nat.le_refl _,fun _=>rfl⟩,fun b el sz es g hb=>⟨es,g,hb,Nat.le_refl _,fun _=>⟨rfl,rfl⟩⟩⟩
 refine⟨⟨fun b x hb=>(h.blk b x hb).keep hk rfl (fun hn=>hold _ (h.lt b (List.getElem?_eq_some_iff.1 hb).1 hn)) (fun _ _ hs=>hs),h.inj,fun b hb hn=>?_,fun g k hs=>?_,h.gls hk.s⟩,?_⟩
 ·have:=h.lt b hb hn;simp;omega
 ·have:=h.swf g k hs;simp;omega
 ·exact { hk with os:=rfl,tape:=rfl,output:=rfl,size:=by simp,frame:=fun g hg _=>hold g hg,snew:=fun g k hs=> .inl hs,own:=fun g hg=> .inl hg }
theorem alloc_raw{P:Program}{o:Oper}{ty:TypeId}{cs:List AV}(ρv:Operand→Value)(w:World)(ho:o.op= .alloc ty)(hz:zeroT P ty=some cs)(ha:cs.all AV.oneA=true):
  ∃cells:Array Value,(execOp ρv o).run P w= .ok (.value (.pointer (some ⟨w.heap.size,0,none⟩))) (w.alloc (.cells cells ty))∧(∀κ:Cx,VL κ cs cells.toList)∧ ∀u∈cells.toList,u.oneCell'=true:=by
 unfold zeroT at hz
 split at hz
 ·rename_i z hi
  cases hz
  obtain⟨i,h1,h2⟩:=Option.bind_eq_some_iff.1 hi
  have hl: ∀κ:Cx,VL κ (z.cells.toList.map abs1) z.cells.toList:=fun κ=>absL_ok κ z.cells.toList
  refine⟨z.cells,?_,hl,VL.one_all (hl ⟨fun _ _=>False,w,fun _=>⟨0,0,false,none⟩,[]⟩) ha⟩
  unfold execOp
  rw[ho]
  simp[Instr.alloc,zeroValue,typeInfo,Sem.run_bind,Result.andThen,h1,h2,newVar,newRow]
 ·cases hz
def Pend(E κ:Cx)(x:Blk)(g:Nat):Prop:=
 ∃ty cs,∃ cur:Array Value,x= .box ty cs false∧κ.w.heap[g]? =some (.cells cur ty (0,0))∧VL κ cs cur.toList∧(∀u∈cur.toList,u.oneCell'=true)∧ ¬Owned κ g∧(∀o,¬ κ.S g o)∧E.w.heap.size≤g
theorem Pend.lt{E κ:Cx}{x:Blk}{g:Nat}(h:Pend E κ x g):g<κ.w.heap.size:=by
 obtain⟨ty,cs,cur,_,h1,_⟩:=h
 exact(Array.getElem?_eq_some_iff.1 h1).1
theorem Pend.mono{E κ κ':Cx}{x:Blk}{g:Nat}(h:Pend E κ x g)(hs:StepM κ κ'):Pend E κ' x g:=by
 have hlt:=h.lt
 obtain⟨ty,cs,cur,h0,h1,h2,h3,h4,h5,h6⟩:=h
 exact⟨ty,cs,cur,h0,by rw[hs.frame g hlt h4];exact h1,VL.mono hs.toKeep _ _ h2,h3,fun ho=>(hs.own g ho).elim h4 (by omega),
  fun o hS=>(hs.snew g o hS).elim (h5 o) (fun h=>h.elim (by omega) h4),h6⟩
def adopted(κ:Cx)(x:Blk)(g:Nat):Cx:={ κ with ρ:=upd κ.ρ κ.H.length { blk:=g,cap:=0,isNil:=false },H:=κ.H++[x] }
theorem Pend.adopt{E κ:Cx}{x:Blk}{g:Nat}(h:Pend E κ x g)(hc:Conc κ)(hE:StepM E κ):
  Conc (adopted κ x g)∧StepM E (adopted κ x g)∧Keep κ (adopted κ x g)∧V (adopted κ x g) (.lp κ.H.length 0) (.pointer (some ⟨g,0,none⟩))∧ ∀g',Owned (adopted κ x g) g'→Owned κ g'∨g'=g:=by
 have hltg:=h.lt
 obtain⟨ty,cs,cur,rfl,h1,h2,h3,h4,h5,h6⟩:=h
 have hlt: ∀{b:Nat} {x':Blk},κ.H[b]? =some x'→b<κ.H.length:=fun hb=>(List.getElem?_eq_some_iff.1 hb).1
 have hH: ∀{b:Nat} {x':Blk},κ.H[b]? =some x'→(κ.H++[Blk.box ty cs false])[b]? =some x':=fun hb=>by rw[List.getElem?_append_left (hlt hb)];exact hb
 have hρ: ∀b,b<κ.H.length→(adopted κ (.box ty cs false) g).ρ b=κ.ρ b:=fun b hb=>upd_other _ _ (Nat.ne_of_lt hb)
 have hρl:(adopted κ (.box ty cs false) g).ρ κ.H.length={ blk:=g,cap:=0,isNil:=false }:=upd_same _ _ _
 have hk:Keep κ (adopted κ (.box ty cs false) g):=
  ⟨fun g o hs=>⟨hs,SameAt.refl⟩,fun b ty cs sl hb=>⟨hρ b (hlt hb),cs,sl,hH hb⟩,fun b el sz es sl hb=>⟨es,sl,hH hb,Nat.le_refl _,fun _=>hρ b (hlt hb)⟩,fun b el sz es g hb=>⟨es,g,hH hb,Nat.le_refl _,fun _=>⟨rfl,hρ b (hlt hb)⟩⟩⟩
 have hown: ∀g',Owned (adopted κ (.box ty cs false) g) g'→Owned κ g'∨g'=g:=by
  rintro g' ⟨b,hb,hn,e⟩
  by_cases hbl:b<κ.H.length
  ·rw[hρ b hbl]at hn e;exact .inl ⟨b,hbl,hn,e⟩
  ·have:b=κ.H.length:=by simp[adopted]at hb;omega
   subst this
   rw[hρl]at e;exact .inr e.symm
 refine⟨⟨fun b x' hb=>?_,fun b b' hb hb' hn hn' e=>?_,fun b hb hn=>?_,fun g o hs=>hc.swf g o hs,hc.gl⟩,?_,hk,⟨ty,cs,false,by simp[adopted],by rw[hρl]⟩,hown⟩
 ·by_cases hbl:b<κ.H.length
  ·have hb2:κ.H[b]? =some x':=by simpa[adopted,List.getElem?_append_left hbl]using hb
   exact(hc.blk b x' hb2).keep hk (hρ b hbl) (fun _=>rfl) (fun _ _ hs=>hs)
  ·have hbe:b=κ.H.length:=by
    have:=(List.getElem?_eq_some_iff.1 hb).1
    simp[adopted]at this;omega
   subst hbe
   simp[adopted]at hb
   subst hb
   exact⟨by rw[hρl],cur,by rw[hρl];exact h1,VL.mono hk _ _ h2,h3,fun _ o=>by rw[hρl];exact h5 o⟩
 ·simp only[adopted,length_append,List.length_singleton]at hb hb'
  by_cases q1:b<κ.H.length<;>by_cases q2:b'<κ.H.length
  ·rw[hρ b q1]at hn e;rw[hρ b' q2]at hn' e;exact hc.inj b b' q1 q2 hn hn' e
  ·have:b'=κ.H.length:=by omega
   subst this
   rw[hρ b q1]at hn e;rw[hρl]at e
   exact absurd ⟨b,q1,hn,e⟩ h4
  ·have:b=κ.H.length:=by omega
   subst this
   rw[hρ b' q2]at hn' e;rw[hρl]at e
   exact absurd ⟨b',q2,hn',e.symm⟩ h4
  ·omega
 ·simp only[adopted,length_append,List.length_singleton]at hb
  by_cases q1:b<κ.H.length
  ·rw[hρ b q1]at hn ⊢;exact hc.lt b q1 hn
  ·have:b=κ.H.length:=by omega
   subst this
   rw[hρl];exact hltg
 ·exact { hE.toKeep.trans hk with os:=hE.os,tape:=hE.tape,output:=hE.output,size:=hE.size,frame:=hE.frame,snew:=hE.snew,own:=fun g' ho=>(hown g' ho).elim (hE.own g') (fun e=> .inr (by omega)) }
inductive Cls|free|alloc|chain
 deriving DecidableEq
def clsOp:Op→Cls
 | .alloc _=> .alloc
 | .store _ _ _=> .chain
 | .box _ _=> .chain
 | .makeSlice _ _ _=> .chain
 | .buildSlice t _ _=>if chainS t then .chain else .free
 | .mapUpdate _ _ _ _=> .chain
 | .mapEntry _ _ _=> .chain
 | .entryStore _ _ _ _=> .chain
 | .call { callee:= .builtin .append,.. }=> .chain
 | .call { callee:= .value (.tmp _),.. }=> .chain
 | .call { callee:= .value (.func g),.. }=>if chainB g then .chain else .free
 |_=> .free
section
variable (ops:Array Oper)
def dstAt(i:Nat):Option Nat:=(ops[i]?).bind (·.dst)
def clsAt(i:Nat):Cls:=match ops[i]? with|some o=>clsOp o.op|none=> .free
def cNo:Nat→Nat
 |0=>0
 |i+1=>cNo i+if clsAt ops i= .chain then 1 else 0
def bef:List Oper→Array Nat→Array Nat
 |[],acc=>acc
 |o::r,acc=>bef r (acc.push (o.after.toList.foldl (fun s e=>if Region.binds .any e then s ||| 2^e.on ||| acc.getD e.on 0 else s) 0))
def anc(i j:Nat):Bool:=((bef ops.toList #[]).getD i 0).testBit j
def drawOk1(m:Array Nat)(sp:List (Nat×Nat))(i:Nat)(o:Oper):Bool:=
 let n:=ops.size
 let an:=fun i j=>(m.getD i 0).testBit j
 (o.after.all fun e=> !Region.binds .any e||decide (e.on<i))&&
 ((List.range n).all fun j=>j == i||o.dst == none||dstAt ops j != o.dst)&&
 ((opTmps o).all fun t=>(List.range n).all fun j=>dstAt ops j != some t||(an i j&&decide (j<i))||(an j i&&decide (i<j)))&&
 (match o.guard with|none=>true|some (g,_)=>an i g&&decide (g<i)&&(dstAt ops g).isSome&&clsAt ops g != .alloc)&&
 (match clsOp o.op with
  | .alloc=>o.guard == none&&o.dst.isSome
  | .chain=>(List.range i).all fun j=>clsAt ops j == .free||an i j
  | .free=>((opTmps o).all fun t=>(List.range n).all fun j=>dstAt ops j != some t||clsAt ops j != .alloc)&&
   ((sp.getD i (0,n)).1 == 0||(List.range n).any fun s=>clsAt ops s == .chain&&an i s&&decide ((sp.getD i (0,n)).1≤cNo ops s+1))&&
   (decide (cNo ops n≤(sp.getD i (0,n)).2)||(List.range n).any fun s=>clsAt ops s == .chain&&an s i&&decide (cNo ops s≤(sp.getD i (0,n)).2)))
def drawOk(sp:List (Nat×Nat)):Bool:=
 let m:=bef ops.toList #[]
 (List.range ops.size).all fun i=>match ops[i]? with|some o=>drawOk1 ops m sp i o|none=>false
def envL(L:Nat→Bool)(val:Nat→AV)(env0:Env):Nat→Env
 |0=>env0
 |m+1=>if L m then eput (envL L val env0 m) (dstAt ops m) (val m)else envL L val env0 m
def pb(bx:Nat→Blk)(c:Nat):Nat→List Blk
 |0=>[]
 |m+1=>if clsAt ops m= .alloc∧cNo ops m=c then pb bx c m++[bx m]else pb bx c m
end
theorem bef_spec{L:Nat→Bool}: ∀(l:List Oper) (acc:Array Nat) (all:List Oper),all.drop acc.size=l→acc.size+l.length=all.length→
  (∀i o,all[i]? =some o→L i=true→ ∀e∈o.after.toList,Region.binds .any e=true→L e.on=true)→
  (∀i j,(acc.getD i 0).testBit j=true→L i=true→L j=true)→
  ∀i j,((bef l acc).getD i 0).testBit j=true→L i=true→L j=true
 |[],acc,all,_,_,_,h=>h
 |o::r,acc,all,hd,hlen,hL,h=>by
  have ho:all[acc.size]? =some o:=by
   have:=congrArg List.head? hd
   simpa using this
  refine bef_spec r _ all ?_ ?_ hL ?_
  ·rw[Array.size_push,← List.drop_drop,hd];rfl
  ·simp at hlen ⊢;omega
  ·intro i j hb hi
   by_cases hlt:i<acc.size
   ·rw[Array.getD_eq_getD_getElem?, Array.getElem?_push_lt hlt]at hb
    refine h i j ?_ hi
    rw[Array.getD_eq_getD_getElem?, Array.getElem?_eq_getElem hlt];exact hb
   ·by_cases he:i=acc.size
    ·subst he
     rw[Array.getD_eq_getD_getElem?, Array.getElem?_push_size]at hb
     simp only[Option.getD_some]at hb
     have key: ∀(es:List Edge) (s:Nat),(∀e∈es,Region.binds .any e=true→L e.on=true)→(∀j,s.testBit j=true→L j=true)→ ∀j,(es.foldl (fun s e=>if Region.binds .any e then s ||| 2^e.on ||| acc.getD e.on 0 else s) s).testBit j=true→L j=true:=by
      intro es
      induction es with
      |nil=>intro s _ hs;exact hs
      |cons e es ih=>
       intro s hes hs
       refine ih _ (fun e' he'=>hes e' (by simp[he'])) ?_
       intro j hj
       dsimp only at hj
       split at hj
       ·rename_i hbd
        rw[Nat.testBit_or,Nat.testBit_or]at hj
        simp only[Bool.or_eq_true]at hj
        have hon:=hes e (by simp) hbd
        rcases hj with(hj|hj)|hj
        ·exact hs j hj
        ·rw[Nat.testBit_two_pow]at hj
         have:e.on=j:=by simpa using hj
         rw[←this];exact hon
        ·exact h e.on j hj hon
       ·exact hs j hj
     exact key _ _ (hL _ _ ho hi) (fun j hj=>by simp at hj) j hb
    ·rw[Array.getD_eq_getD_getElem?, Array.getElem?_eq_none (by simp;omega)]at hb
     simp at hb
section
variable {ops:Array Oper} {L:Nat→Bool}
theorem anc_spec(hL: ∀i o,ops[i]? =some o→L i=true→ ∀e∈o.after.toList,Region.binds .any e=true→L e.on=true): ∀i j,anc ops i j=true→L i=true→L j=true:=
 bef_spec ops.toList #[] ops.toList rfl (by simp) (fun i o h=>hL i o (by simpa using h)) (fun i j h=>by simp at h)
variable {val:Nat→AV} {env0:Env}
theorem envL_hit(hu: ∀i j t,dstAt ops i=some t→dstAt ops j=some t→i=j){i t:Nat}(hL:L i=true)(hd:dstAt ops i=some t): ∀m,i<m→eget (envL ops L val env0 m) t=val i
 |0,h=>by omega
 |m+1,h=>by
  simp only[envL]
  by_cases e:i=m
  ·subst e
   rw[if_pos hL,hd];simp[eget,eput]
  ·have ih:=envL_hit hu hL hd m (by omega)
   split
   ·rw[eget_put,if_neg (fun e2=>e (hu i m t hd e2))];exact ih
   ·exact ih
theorem envL_miss{t:Nat}: ∀m,(∀j,j<m→L j=true→dstAt ops j≠some t)→eget (envL ops L val env0 m) t=eget env0 t
 |0,_=>rfl
 |m+1,h=>by
  have ih:=envL_miss m (fun j hj=>h j (by omega))
  simp only[envL]
  split
  ·rename_i hm
   rw[eget_put,if_neg (h m (by omega) hm)];exact ih
  ·exact ih
theorem cNo_mono {i j : Nat} (h : i ≤ j) : cNo ops i ≤ cNo ops j := by
  induction j with
  | zero => have : i = 0 := by omega
            subst this; exact Nat.le_refl _
  | succ j ih =>
    by_cases e : i = j + 1
    · subst e; exact Nat.le_refl _
    · have := ih (by omega)
      simp only [cNo]; omega
theorem cNo_lt{i j:Nat}(h:i<j)(hc:clsAt ops i= .chain):cNo ops i<cNo ops j:=by
 have:=cNo_mono (ops:=ops) (i:=i+1) (j:=j) h
 simp only[cNo,hc,if_true]at this
 omega
end
def gres(g:AV)(w:Bool):Option Bool:=match g with
 | .bool b=>some (b == w)
 | .tup []=>some false
 |_=>none
def ChCall(P:Program)(fv:AV)(args:List AV)(H:Heap)(v:AV)(Hx:Heap):Prop:=
 (∃g caps,fv= .fn g caps∧HCH P g (args++caps) H fun r H'=>r=v∧H'=Hx)∨
 ∃l,fv= .yld l∧HCY P l args H fun r H'=>r=v∧H'=Hx
structure Sol (P : Program) (nt : Nat) (ops : Array Oper) (sp : List (Nat × Nat)) (env0 : Env) (H0 : Heap) (HC : Nat → Heap) (val : Nat → AV) (bx : Nat → Blk) : Prop where
  h0 : HC 0 = H0
  dst : ∀ (i : Nat) (o : Oper), ops[i]? = some o → dstOk nt o.dst
  want : ∀ (i : Nat) (o : Oper) (g : Nat) (w : Bool), ops[i]? = some o → o.guard = some (g, w) → ∃ t, gres (guardV ops g (envL ops (fun _ => true) val env0 i)) w = some t
  pass : ∀ (i : Nat) (o : Oper) (g : Nat) (w : Bool), ops[i]? = some o → o.guard = some (g, w) → gres (guardV ops g (envL ops (fun _ => true) val env0 i)) w = some false → val i = .tup [] ∧ (clsOp o.op = .chain → HC (cNo ops i + 1) = HC (cNo ops i) ++ pb ops bx (cNo ops i) i)
  run : ∀ (i : Nat) (o : Oper), ops[i]? = some o → (∀ (g : Nat) (w : Bool), o.guard = some (g, w) → gres (guardV ops g (envL ops (fun _ => true) val env0 i)) w = some true) →
    match clsOp o.op with
    | .alloc => ∃ ty cs, o.op = .alloc ty ∧ zeroT P ty = some cs ∧ cs.all AV.oneA = true ∧ bx i = .box ty cs false ∧ val i = .lp ((HC (cNo ops i)).length + (pb ops bx (cNo ops i) i).length) 0
    | .chain => (∃ p v1 H1, p ∧ evOp P (envL ops (fun _ => true) val env0 i) (HC (cNo ops i) ++ pb ops bx (cNo ops i) i) o.op = .ok p v1 H1 ∧ Sld v1 H1 (val i) (HC (cNo ops i + 1))) ∨
       ∃ f args ats, o.op = .call { callee := .value f, args := args, argTypes := ats } ∧
         ChCall P (evA (envL ops (fun _ => true) val env0 i) f) (args.toList.map (evA (envL ops (fun _ => true) val env0 i))) (HC (cNo ops i) ++ pb ops bx (cNo ops i) i) (val i) (HC (cNo ops i + 1))
    | .free => ∀ k, (sp.getD i (0, ops.size)).1 ≤ k → k ≤ (sp.getD i (0, ops.size)).2 → k ≤ cNo ops ops.size →
      ((∃ p, p ∧ evOp P (envL ops (fun _ => true) val env0 i) (HC k) o.op = .ok p (val i) (HC k)) ∨
       ∃ f args ats g caps, o.op = .call { callee := .value f, args := args, argTypes := ats } ∧ evA (envL ops (fun _ => true) val env0 i) f = .fn g caps ∧
         HCH P g (args.toList.map (evA (envL ops (fun _ => true) val env0 i)) ++ caps) (HC k) fun r H' => r = val i ∧ H' = HC k)
structure Chk(ops:Array Oper)(sp:List (Nat×Nat))(i:Nat)(o:Oper):Prop where
 edges: ∀e∈o.after.toList,Region.binds .any e=true→e.on<i
 uniq: ∀j,j<ops.size→j≠i→o.dst≠none→dstAt ops j≠o.dst
 opnd: ∀t∈opTmps o,∀ j,j<ops.size→dstAt ops j=some t→(anc ops i j=true∧j<i)∨(anc ops j i=true∧i<j)
 guard: ∀g w,o.guard=some (g,w)→anc ops i g=true∧g<i∧(∃d,dstAt ops g=some d)∧clsAt ops g≠ .alloc
 alloc:clsOp o.op= .alloc→o.guard=none∧ ∃d,o.dst=some d
 chain:clsOp o.op= .chain→ ∀j,j<i→clsAt ops j= .free∨anc ops i j=true
 free:clsOp o.op= .free→(∀t∈opTmps o,∀ j,j<ops.size→dstAt ops j=some t→clsAt ops j≠ .alloc)∧
  ((sp.getD i (0,ops.size)).1=0∨ ∃s,s<ops.size∧clsAt ops s= .chain∧anc ops i s=true∧(sp.getD i (0,ops.size)).1≤cNo ops s+1)∧
  (cNo ops ops.size≤(sp.getD i (0,ops.size)).2∨ ∃s,s<ops.size∧clsAt ops s= .chain∧anc ops s i=true∧cNo ops s≤(sp.getD i (0,ops.size)).2)
theorem drawOk_spec{ops:Array Oper}{sp:List (Nat×Nat)}(h:drawOk ops sp=true){i:Nat}{o:Oper}(ho:ops[i]? =some o):Chk ops sp i o:=by
 have hi:i<ops.size:=(Array.getElem?_eq_some_iff.1 ho).1
 have h1:drawOk1 ops (bef ops.toList #[]) sp i o=true:=by
  have:=List.all_eq_true.1 h i (List.mem_range.2 hi)
  rw[ho]at this
  exact this
 unfold drawOk1 at h1
 simp only[Bool.and_eq_true]at h1
 obtain⟨⟨⟨⟨e1,e2⟩,e3⟩,e4⟩,e5⟩:=h1
 refine⟨?_,?_,?_,?_,?_,?_,?_⟩
 ·intro e he hb
  have:=(Array.all_eq_true'.1 e1) e (by simpa using he)
  simpa[hb]using this
 ·intro j hj hne hn
  have:=List.all_eq_true.1 e2 j (List.mem_range.2 hj)
  simpa[hne,hn]using this
 ·intro t ht j hj hd
  have:=List.all_eq_true.1 (List.all_eq_true.1 e3 t ht) j (List.mem_range.2 hj)
  simpa[hd,anc]using this
 ·intro g w hg
  rw[hg]at e4
  simp only[Bool.and_eq_true]at e4
  obtain⟨⟨⟨a1,a2⟩,a3⟩,a4⟩:=e4
  exact⟨a1,by simpa using a2,Option.isSome_iff_exists.1 a3,by simpa using a4⟩
 ·intro hc
  rw[hc]at e5
  simp only[Bool.and_eq_true]at e5
  exact⟨by simpa using e5.1,Option.isSome_iff_exists.1 e5.2⟩
 ·intro hc j hj
  rw[hc]at e5
  have:=List.all_eq_true.1 e5 j (List.mem_range.2 hj)
  simpa[anc]using this
 ·intro hc
  rw[hc]at e5
  simp only[Bool.and_eq_true,Bool.or_eq_true]at e5
  obtain⟨⟨a1,a2⟩,a3⟩:=e5
  refine⟨fun t ht j hj hd=>?_,?_,?_⟩
  ·have:=List.all_eq_true.1 (List.all_eq_true.1 a1 t ht) j (List.mem_range.2 hj)
   simpa[hd]using this
  ·rcases a2 with a2|a2
   ·exact .inl (by simpa using a2)
   ·obtain⟨s,hs,h2⟩:=List.any_eq_true.1 a2
    simp only[Bool.and_eq_true]at h2
    exact .inr ⟨s,List.mem_range.1 hs,by simpa using h2.1.1,h2.1.2,of_decide_eq_true h2.2⟩
  ·rcases a3 with a3|a3
   ·exact .inl (of_decide_eq_true a3)
   ·obtain⟨s,hs,h2⟩:=List.any_eq_true.1 a3
    simp only[Bool.and_eq_true]at h2
    exact .inr ⟨s,List.mem_range.1 hs,by simpa using h2.1.1,h2.1.2,of_decide_eq_true h2.2⟩
theorem dstAt_lt{ops:Array Oper}{i t:Nat}(h:dstAt ops i=some t):i<ops.size:=by
 unfold dstAt at h
 obtain⟨o,h1,_⟩:=Option.bind_eq_some_iff.1 h
 exact(Array.getElem?_eq_some_iff.1 h1).1
theorem dstAt_of{ops:Array Oper}{i:Nat}{o:Oper}(h:ops[i]? =some o):dstAt ops i=o.dst:=by simp[dstAt,h]
theorem clsAt_of{ops:Array Oper}{i:Nat}{o:Oper}(h:ops[i]? =some o):clsAt ops i=clsOp o.op:=by simp[clsAt,h]
theorem drawOk_uniq{ops:Array Oper}{sp:List (Nat×Nat)}(h:drawOk ops sp=true): ∀i j t,dstAt ops i=some t→dstAt ops j=some t→i=j:=by
 intro i j t hi hj
 have hil:=dstAt_lt hi
 have hjl:=dstAt_lt hj
 have ho:ops[i]? =some ops[i]:=Array.getElem?_eq_getElem hil
 have hc:=drawOk_spec h ho
 rw[dstAt_of ho]at hi
 by_cases e:i=j
 ·exact e
 ·exact absurd (hj.trans hi.symm) (hc.uniq j hjl (fun e2=>e e2.symm) (by rw[hi];simp))
def valP(ops:Array Oper)(val:Nat→AV)(k j:Nat):AV:=if clsAt ops j= .alloc∧k≤cNo ops j then .any else val j
structure Inv(ops:Array Oper)(nt:Nat)(env0:Env)(val:Nat→AV)(bx:Nat→Blk)(E:Cx)(L:Nat→Bool)(k:Nat)(H:Heap)(κ:Cx)(a:Act):Prop where
 H:κ.H=H
 conc:Conc κ
 step:StepM E κ
 sz:a.tmps.size=nt
 vL: ∀j d,L j=true→dstAt ops j=some d→V κ (valP ops val k j) (a.tmps.getD d undef)
 v0: ∀t,(∀j,L j=true→dstAt ops j≠some t)→V κ (eget env0 t) (a.tmps.getD t undef)
 marks:a.defers.Nodup∧Marks E κ a.defers
 pend: ∀j d,clsAt ops j= .alloc→L j=true→k≤cNo ops j→dstAt ops j=some d→ ∃g,a.tmps.getD d undef= .pointer (some ⟨g,0,none⟩)∧Pend E κ (bx j) g
 dist: ∀j j' d d' g,clsAt ops j= .alloc→clsAt ops j'= .alloc→L j=true→L j'=true→k≤cNo ops j→k≤cNo ops j'→dstAt ops j=some d→dstAt ops j'=some d'→
  a.tmps.getD d undef= .pointer (some ⟨g,0,none⟩)→a.tmps.getD d' undef= .pointer (some ⟨g,0,none⟩)→j=j'
def addL(L:Nat→Bool)(i:Nat):Nat→Bool:=fun j=>if j=i then true else L j
section
variable {ops:Array Oper} {sp:List (Nat×Nat)} {nt:Nat} {env0:Env} {val:Nat→AV} {bx:Nat→Blk} {E κ:Cx} {L:Nat→Bool} {k:Nat} {H:Heap} {a:Act}
theorem Inv.env(h:Inv ops nt env0 val bx E L k H κ a)(hu: ∀i j t,dstAt ops i=some t→dstAt ops j=some t→i=j)(t:Nat):V κ (eget (envL ops L (valP ops val k) env0 ops.size) t) (a.tmps.getD t undef):=by
 by_cases hx: ∃j,L j=true∧dstAt ops j=some t
 ·obtain⟨j,hj,hd⟩:=hx
  rw[envL_hit hu hj hd _ (dstAt_lt hd)]
  exact h.vL j t hj hd
 ·rw[envL_miss _ (fun j _ hj hd=>hx ⟨j,hj,hd⟩)]
  exact h.v0 t fun j hj hd=>hx ⟨j,hj,hd⟩
theorem Inv.put(h:Inv ops nt env0 val bx E L k H κ a)(hu: ∀i j t,dstAt ops i=some t→dstAt ops j=some t→i=j){i:Nat}{o:Oper}(ho:ops[i]? =some o)(hLi:L i=false)(hd:dstOk nt o.dst)
  {κ':Cx} {c:Value} {H':Heap} (hc:Conc κ') (hs:StepM κ κ') (hH:κ'.H=H') (hv:V κ' (valP ops val k i) c)
  (hp:clsAt ops i= .alloc→k≤cNo ops i→ ∃g,c= .pointer (some ⟨g,0,none⟩)∧Pend E κ' (bx i) g∧κ.w.heap.size≤g):
  Inv ops nt env0 val bx E (addL L i) k H' κ' (a.put o.dst c):=by
 have hdd: ∀d,o.dst=some d→d<nt:=fun d e=>by rw[e]at hd;exact hd
 have hget:=getD_put (c:=c) h.sz hdd
 have hdi:dstAt ops i=o.dst:=dstAt_of ho
 have hLs: ∀j,addL L i j=true→j=i∨(j≠i∧L j=true):=fun j hj=>by
  unfold addL at hj
  split at hj
  ·exact .inl (by assumption)
  ·exact .inr ⟨by assumption,hj⟩
 have hne: ∀j d,j≠i→dstAt ops j=some d→o.dst≠some d:=fun j d hj h1 h2=>hj (hu j i d h1 (hdi.trans h2))
 refine⟨hH,hc,h.step.trans hs,?_,?_,?_,?_,?_,?_⟩
 ·cases o.dst<;>simp[Act.put,h.sz]
 ·intro j d hj hjd
  rcases hLs j hj with rfl|⟨hji,hj⟩
  ·rw[hget,if_pos (hdi.symm.trans hjd)];exact hv
  ·rw[hget,if_neg (hne j d hji hjd)];exact V.mono hs.toKeep _ _ (h.vL j d hj hjd)
 ·intro t ht
  have:o.dst≠some t:=fun e=>ht i (by simp[addL]) (hdi.trans e)
  rw[hget,if_neg this]
  refine V.mono hs.toKeep _ _ (h.v0 t fun j hj=>ht j ?_)
  unfold addL;split
  ·rfl
  ·exact hj
 ·cases o.dst<;>exact⟨h.marks.1,h.marks.2.step hs⟩
 ·intro j d hal hj hk hjd
  rcases hLs j hj with rfl|⟨hji,hj⟩
  ·obtain⟨g,e,hpg,_⟩:=hp hal hk
   exact⟨g,by rw[hget,if_pos (hdi.symm.trans hjd)];exact e,hpg⟩
  ·obtain⟨g,e,hpg⟩:=h.pend j d hal hj hk hjd
   exact⟨g,by rw[hget,if_neg (hne j d hji hjd)];exact e,hpg.mono hs⟩
 ·have key: ∀j d g,clsAt ops j= .alloc→L j=true→k≤cNo ops j→dstAt ops j=some d→j≠i→clsAt ops i= .alloc→k≤cNo ops i→a.tmps.getD d undef= .pointer (some ⟨g,0,none⟩)→c= .pointer (some ⟨g,0,none⟩)→False:=by
   intro j d g hal hj hk hjd hji hali hki e e2
   obtain⟨g1,q1,q2⟩:=h.pend j d hal hj hk hjd
   obtain⟨g2,q3,_,q4⟩:=hp hali hki
   rw[e]at q1;rw[e2]at q3
   have hlt:=q2.lt
   simp only[Value.pointer.injEq,Option.some.injEq,Addr.mk.injEq,and_true]at q1 q3
   omega
  intro j j' d d' g h1 h2 h3 h4 h5 h6 h7 h8 h9 h10
  rcases hLs j h3 with e1|⟨e1,q3⟩<;>rcases hLs j' h4 with e2|⟨e2,q4⟩
  ·rw[e1,e2]
  ·exfalso
   subst e1
   rw[hget,if_pos (hdi.symm.trans h7)]at h9
   rw[hget,if_neg (hne j' d' e2 h8)]at h10
   exact key j' d' g h2 q4 h6 h8 e2 h1 h5 h10 h9
  ·exfalso
   subst e2
   rw[hget,if_pos (hdi.symm.trans h8)]at h10
   rw[hget,if_neg (hne j d e1 h7)]at h9
   exact key j d g h1 q3 h5 h7 e1 h2 h6 h9 h10
  ·rw[hget,if_neg (hne j d e1 h7)]at h9
   rw[hget,if_neg (hne j' d' e2 h8)]at h10
   exact h.dist j j' d d' g h1 h2 q3 q4 h5 h6 h7 h8 h9 h10
theorem Inv.adopt(h:Inv ops nt env0 val bx E L k H κ a)(hu: ∀i j t,dstAt ops i=some t→dstAt ops j=some t→i=j)
  (hall: ∀j,clsAt ops j= .alloc→cNo ops j=k→j<ops.size→L j=true∧ ∃d,dstAt ops j=some d)
  (hval: ∀j,clsAt ops j= .alloc→cNo ops j=k→j<ops.size→val j= .lp (H.length+(pb ops bx k j).length) 0):
  ∃κ',κ'.w=κ.w∧Inv ops nt env0 val bx E L (k+1) (H++pb ops bx k ops.size) κ' a:=by
 have main: ∀m,m≤ops.size→ ∃κ',κ'.w=κ.w∧κ'.S=κ.S∧κ'.H=H++pb ops bx k m∧Conc κ'∧StepM E κ'∧Keep κ κ'∧
   (∀g,Owned κ' g→Owned κ g∨ ∃j d,j<m∧clsAt ops j= .alloc∧cNo ops j=k∧dstAt ops j=some d∧a.tmps.getD d undef= .pointer (some ⟨g,0,none⟩))∧
   (∀j d,j<m→clsAt ops j= .alloc→cNo ops j=k→dstAt ops j=some d→V κ' (val j) (a.tmps.getD d undef)):=by
  intro m
  induction m with
  |zero=>intro _;exact⟨κ,rfl,rfl,by simp[pb,h.H],h.conc,h.step,.refl κ,fun g hg=> .inl hg,fun j d hj=>by omega⟩
  |succ m ih=>
   intro hm
   obtain⟨κ',h1,h2,h3,h4,h5,h6,h7,h8⟩:=ih (by omega)
   simp only[pb]
   by_cases hc:clsAt ops m= .alloc∧cNo ops m=k
   ·rw[if_pos hc]
    obtain⟨hLm,d,hd⟩:=hall m hc.1 hc.2 (by omega)
    obtain⟨g,hg,hp⟩:=h.pend m d hc.1 hLm (by omega) hd
    have hp':Pend E κ' (bx m) g:=by
     obtain⟨ty,cs,cur,p0,p1,p2,p3,p4,p5,p6⟩:=hp
     refine⟨ty,cs,cur,p0,by rw[h1];exact p1,VL.mono h6 _ _ p2,p3,fun ho=>?_,by rw[h2];exact p5,p6⟩
     rcases h7 g ho with ho|⟨j,d',q1,q2,q3,q4,q5⟩
     ·exact p4 ho
     ·have:=h.dist j m d' d g q2 hc.1 (hall j q2 q3 (by omega)).1 hLm (by omega) (by omega) q4 hd q5 hg
      omega
    obtain⟨a1,a2,a3,a4,a5⟩:=hp'.adopt h4 h5
    refine⟨adopted κ' (bx m) g,h1,h2,?_,a1,a2,h6.trans a3,?_,?_⟩
    ·simp only[adopted,h3,List.append_assoc]
    ·intro g' ho
     rcases a5 g' ho with ho|rfl
     ·rcases h7 g' ho with ho|⟨j,d',q1,q2,q3,q4,q5⟩
      ·exact .inl ho
      ·exact .inr ⟨j,d',by omega,q2,q3,q4,q5⟩
     ·exact .inr ⟨m,d,by omega,hc.1,hc.2,hd,hg⟩
    ·intro j d' hj q2 q3 q4
     by_cases e:j=m
     ·subst e
      rw[hd]at q4;cases q4
      rw[hval j hc.1 hc.2 (by omega),hg]
      have:=a4
      rw[h3,length_append]at this
      exact this
     ·exact V.mono a3 _ _ (h8 j d' (by omega) q2 q3 q4)
   ·rw[if_neg hc]
    refine⟨κ',h1,h2,h3,h4,h5,h6,fun g ho=>(h7 g ho).imp id (fun⟨j,d,q1,q⟩=>⟨j,d,by omega,q⟩),fun j d hj q2 q3 q4=>?_⟩
    by_cases e:j=m
    ·subst e;exact absurd ⟨q2,q3⟩ hc
    ·exact h8 j d (by omega) q2 q3 q4
 obtain⟨κ',h1,h2,h3,h4,h5,h6,h7,h8⟩:=main ops.size (Nat.le_refl _)
 refine⟨κ',h1,h3,h4,h5,h.sz,?_,?_,⟨h.marks.1,?_⟩,?_,?_⟩
 ·intro j d hj hd
  have:=h.vL j d hj hd
  unfold valP at this ⊢
  by_cases hal:clsAt ops j= .alloc
  ·by_cases hk:k+1≤cNo ops j
   ·rw[if_pos ⟨hal,hk⟩];trivial
   ·rw[if_neg (fun hh=>hk hh.2)]
    by_cases hk2:k≤cNo ops j
    ·exact h8 j d (dstAt_lt hd) hal (by omega) hd
    ·rw[if_neg (fun hh=>hk2 hh.2)]at this
     exact V.mono h6 _ _ this
  ·rw[if_neg (fun hh=>hal hh.1)]at this ⊢
   exact V.mono h6 _ _ this
 ·exact fun t ht=>V.mono h6 _ _ (h.v0 t ht)
 ·intro d hd
  obtain⟨D,e1,e2,e3,e4⟩:=h.marks.2 d hd
  refine⟨D,e1,by rw[h1];exact e2,e3,fun ho=>?_⟩
  rcases h7 D ho with ho|⟨j,d',q1,q2,q3,q4,q5⟩
  ·exact e4 ho
  ·obtain⟨g,r1,r2⟩:=h.pend j d' q2 (hall j q2 q3 q1).1 (by omega) q4
   rw[q5]at r1
   simp only[Value.pointer.injEq,Option.some.injEq,Addr.mk.injEq,and_true]at r1
   subst r1
   obtain⟨_,_,_,_,r3,_⟩:=r2
   rw[e2]at r3;cases r3
 ·intro j d hal hj hk hd
  obtain⟨g,e,hp⟩:=h.pend j d hal hj (by omega) hd
  refine⟨g,e,?_⟩
  obtain⟨ty,cs,cur,p0,p1,p2,p3,p4,p5,p6⟩:=hp
  refine⟨ty,cs,cur,p0,by rw[h1];exact p1,VL.mono h6 _ _ p2,p3,fun ho=>?_,by rw[h2];exact p5,p6⟩
  rcases h7 g ho with ho|⟨j',d',q1,q2,q3,q4,q5⟩
  ·exact p4 ho
  ·have:=h.dist j' j d' d g q2 hal (hall j' q2 q3 q1).1 hj (by omega) (by omega) q4 hd q5 e
   subst this;omega
 ·exact fun j j' d d' g q1 q2 q3 q4 q5 q6=>h.dist j j' d d' g q1 q2 q3 q4 (by omega) (by omega)
end
def Closed(ops:Array Oper)(L:Nat→Bool):Prop:= ∀i o,ops[i]? =some o→L i=true→ ∀e∈o.after.toList,Region.binds .any e=true→L e.on=true
def Pref(ops:Array Oper)(L:Nat→Bool)(k:Nat):Prop:=(∀s,s<ops.size→clsAt ops s= .chain→(L s=true↔cNo ops s<k))∧k≤cNo ops ops.size
section
variable {ops:Array Oper}
theorem cNo_find {c : Nat} : ∀ {i n : Nat}, cNo ops i ≤ c → c < cNo ops n → i ≤ n → ∃ s, i ≤ s ∧ s < n ∧ clsAt ops s = .chain ∧ cNo ops s = c
  | i, 0, h1, h2, h3 => by have : i = 0 := by omega
                           subst this; omega
  | i, n + 1, h1, h2, h3 => by
    by_cases hc : c < cNo ops n
    · by_cases hi : i ≤ n
      · obtain ⟨s, a1, a2, a3⟩ := cNo_find h1 hc hi
        exact ⟨s, a1, by omega, a3⟩
      · have : i = n + 1 := by omega
        subst this; omega
    · simp only [cNo] at h2
      split at h2
      · rename_i hcl
        by_cases hi : i ≤ n
        · exact ⟨n, hi, by omega, hcl, by omega⟩
        · have : i = n + 1 := by omega
          subst this
          simp only [cNo, hcl, if_true] at h1
          omega
      · omega
theorem pb_stop {bx : Nat → Blk} {c i : Nat} (h : c < cNo ops i) : ∀ n, i ≤ n → pb ops bx c n = pb ops bx c i
  | 0, hn => by have : i = 0 := by omega
                subst this; rfl
  | n + 1, hn => by
    by_cases e : i = n + 1
    · rw [e]
    · have := cNo_mono (ops := ops) (i := i) (j := n) (by omega)
      simp only [pb]
      rw [if_neg (fun hh => by omega)]
      exact pb_stop h n (by omega)
end
section
variable {P:Program} {ops:Array Oper} {sp:List (Nat×Nat)} {nt:Nat} {env0:Env} {H0:Heap} {HC:Nat→Heap} {val:Nat→AV} {bx:Nat→Blk} {E κ:Cx} {L:Nat→Bool} {k:Nat} {a:Act}
 {F:Fence} {Q:Exit→Act→World→Prop}
theorem draw_step(hok:drawOk ops sp=true)(hS:Sol P nt ops sp env0 H0 HC val bx)(hF:Wide F)(hI:Inv ops nt env0 val bx E L k (HC k) κ a)(hcl:Closed ops L)(hpr:Pref ops L k)
  {i:Nat} {o:Oper} (ho:ops[i]? =some o) (hLi:L i=false) (hrd: ∀e∈o.after.toList,Region.binds .any e=true→L e.on=true) {K:Act→World→Prop}
  (hK: ∀k' κ' a',Inv ops nt env0 val bx E (addL L i) k' (HC k') κ' a'→Pref ops (addL L i) k'→K a' κ'.w):wpOpIn F 0 P ops Q i K a κ.w:=by
 have hin:i<ops.size:=(Array.getElem?_eq_some_iff.1 ho).1
 have hck:=drawOk_spec hok ho
 have hu:=drawOk_uniq hok
 have hcl':Closed ops (addL L i):=by
  intro j oj hj hLj e he hb
  have hL2:L e.on=true:=by
   unfold addL at hLj
   split at hLj
   ·rename_i e1;subst e1
    rw[ho]at hj;cases hj
    exact hrd e he hb
   ·exact hcl j oj hj hLj e he hb
  unfold addL;split
  ·rfl
  ·exact hL2
 have hanc: ∀j,j≠i→anc ops i j=true→L j=true:=by
  intro j hji hj
  have:=anc_spec hcl' i j hj (by simp[addL])
  unfold addL at this
  rw[if_neg hji]at this;exact this
 have hanti: ∀j,anc ops j i=true→L j=false:=by
  intro j hj
  cases hLj:L j with
  |false=>rfl
  |true=>rw[anc_spec hcl j i hj hLj]at hLi;cases hLi
 have hlexu: ∀i j t,dstAt ops i=some t→dstAt ops j=some t→i=j:=hu
 have agree: ∀k',(∀t∈opTmps o,∀ j,dstAt ops j=some t→j<i→valP ops val k' j=val j)→ ∀t∈opTmps o,eget (envL ops L (valP ops val k') env0 ops.size) t=eget (envL ops (fun _=>true) val env0 i) t:=by
  intro k' hv t ht
  by_cases hx: ∃j,dstAt ops j=some t
  ·obtain⟨j,hd⟩:=hx
   have hjn:=dstAt_lt hd
   rcases hck.opnd t ht j hjn hd with⟨h1,h2⟩|⟨h1,h2⟩
   ·rw[envL_hit hu (hanc j (by omega) h1) hd _ hjn,envL_hit hu rfl hd _ h2]
    exact hv t ht j hd h2
   ·have hLj:=hanti j h1
    rw[envL_miss _ (fun j' _ hj' hd'=>by rw[hu j' j t hd' hd]at hj';rw[hj']at hLj;cases hLj),
     envL_miss _ (fun j' hj' _ hd'=>by have:=hu j' j t hd' hd;omega)]
  ·rw[envL_miss _ (fun j _ _ hd=>hx ⟨j,hd⟩),envL_miss _ (fun j _ _ hd=>hx ⟨j,hd⟩)]
 have hrng:clsOp o.op= .chain→cNo ops i=k:=by
  intro hc
  have h1: ¬cNo ops i<k:=fun h=>by rw[(hpr.1 i hin (by rw[clsAt_of ho];exact hc)).2 h]at hLi;cases hLi
  by_cases h2:k<cNo ops i
  ·obtain⟨s,_,s1,s2,s3⟩:=cNo_find (ops:=ops) (c:=k) (i:=0) (n:=i) (by simp[cNo]) h2 (by omega)
   have:L s=true:=by
    rcases hck.chain hc s s1 with h|h
    ·rw[s2]at h;cases h
    ·exact hanc s (by omega) h
   have:=(hpr.1 s (by omega) s2).1 this
   omega
  ·omega
 have hpref:Pref ops (addL L i) (if clsOp o.op= .chain then k+1 else k):=by
  split
  ·rename_i hc
   have hk:=hrng hc
   have hci:clsAt ops i= .chain:=by rw[clsAt_of ho];exact hc
   refine⟨fun s hs hsc=>?_,?_⟩
   ·unfold addL
    split
    ·rename_i e;subst e;simp;omega
    ·rename_i e
     rw[hpr.1 s hs hsc]
     refine⟨fun h=>by omega,fun h=>?_⟩
     by_cases h2:s<i
     ·have:=cNo_lt (ops:=ops) h2 hsc;omega
     ·have:=cNo_lt (ops:=ops) (show i<s by omega) hci;omega
   ·have:=cNo_lt (ops:=ops) hin hci;omega
  ·rename_i hc
   refine⟨fun s hs hsc=>?_,hpr.2⟩
   unfold addL
   split
   ·rename_i e;subst e;rw[clsAt_of ho]at hsc;exact absurd hsc hc
   ·exact hpr.1 s hs hsc
 have hadopt:clsOp o.op= .chain→ ∃κ',κ'.w=κ.w∧Inv ops nt env0 val bx E L (k+1) (HC k++pb ops bx k i) κ' a:=by
  intro hc
  have hk:=hrng hc
  have hci:clsAt ops i= .chain:=by rw[clsAt_of ho];exact hc
  have hlt1:k<cNo ops (i+1):=by simp only[cNo,hci,if_true];omega
  have hearly: ∀j,clsAt ops j= .alloc→cNo ops j=k→j<i:=by
   intro j hj hjk
   by_cases h:j<i
   ·exact h
   ·by_cases e:j=i
    ·subst e;rw[hci]at hj;cases hj
    ·have:=cNo_lt (ops:=ops) (show i<j by omega) hci;omega
  have hdst: ∀j,clsAt ops j= .alloc→j<ops.size→(∃d,dstAt ops j=some d)∧ ∀g w oj,ops[j]? =some oj→oj.guard≠some (g,w):=by
   intro j hj hjn
   have hoj:ops[j]? =some ops[j]:=Array.getElem?_eq_getElem hjn
   have:=(drawOk_spec hok hoj).alloc (by rw[←clsAt_of hoj];exact hj)
   refine⟨by rw[dstAt_of hoj];exact this.2,fun g w oj h1 h2=>?_⟩
   rw[hoj]at h1;cases h1
   rw[this.1]at h2;cases h2
  obtain⟨κ',h1,h2⟩:=hI.adopt hu (fun j hj hjk hjn=>⟨(hck.chain hc j (hearly j hj hjk)).elim (fun h=>by rw[hj]at h;cases h) (hanc j (by have:=hearly j hj hjk;omega)),(hdst j hj hjn).1⟩)
   (fun j hj hjk hjn=>by
    have hoj:ops[j]? =some ops[j]:=Array.getElem?_eq_getElem hjn
    have:=hS.run j _ hoj (fun g w hg=>absurd hg ((hdst j hj hjn).2 g w _ hoj))
    rw[show clsOp ops[j].op= .alloc from by rw[←clsAt_of hoj];exact hj]at this
    obtain⟨ty,cs,_,_,_,_,e⟩:=this
    rw[e,hjk])
  refine⟨κ',h1,?_⟩
  rw[pb_stop (bx:=bx) hlt1 ops.size (by omega)]at h2
  rw[show pb ops bx k (i+1)=pb ops bx k i from by simp[pb,hci]]at h2
  exact h2
 have hguard:(o.guard=none∧Region.wanted o (yielded ops a.tmps)=true)∨ ∃g w b,o.guard=some (g,w)∧gres (guardV ops g (envL ops (fun _=>true) val env0 i)) w=some b∧Region.wanted o (yielded ops a.tmps)=b:=by
  cases hg:o.guard with
  |none=>exact .inl ⟨rfl,by simp[Region.wanted,hg]⟩
  |some gw=>
   obtain⟨g,w⟩:=gw
   obtain⟨b,hb⟩:=hS.want i o g w ho hg
   obtain⟨q1,q2,⟨d,q3⟩,q4⟩:=hck.guard g w hg
   have hgL:=hanc g (by omega) q1
   have hgv: ∀env,guardV ops g env=eget env d:=fun env=>by unfold guardV;unfold dstAt at q3;rw[q3]
   refine .inr ⟨g,w,b,rfl,hb,?_⟩
   have he:guardV ops g (envL ops L (valP ops val k) env0 ops.size)=guardV ops g (envL ops (fun _=>true) val env0 i):=by
    rw[hgv,hgv,envL_hit hu hgL q3 _ (by omega),envL_hit hu rfl q3 _ q2]
    unfold valP;rw[if_neg (fun h=>q4 h.1)]
   unfold gres at hb
   split at hb
   ·rename_i b' hb'
    simp only[Option.some.injEq]at hb
    simp[Region.wanted,hg,yielded_of (hI.env hu) (he.trans hb'),← hb]
   ·rename_i hb'
    simp only[Option.some.injEq]at hb
    simp[Region.wanted,hg,yielded_undef (hI.env hu) (he.trans hb'),← hb]
   ·cases hb
 unfold wpOpIn
 simp only[ho]
 by_cases hw:Region.wanted o (yielded ops a.tmps)=true
 ·rw[if_pos hw]
  have hrun:=hS.run i o ho (by
   intro g w hg
   rcases hguard with⟨h1,_⟩|⟨g',w',b,h1,h2,h3⟩
   ·rw[h1]at hg;cases hg
   ·rw[h1]at hg;cases hg
    rw[hw]at h3
    rw[h2,h3])
  have hdst:=hS.dst i o ho
  cases hc:clsOp o.op with
  |free=>
   rw[hc]at hrun hpref
   simp only[reduceCtorEq,if_false]at hpref
   obtain⟨f1,f2,f3⟩:=hck.free hc
   have hval:valP ops val k i=val i:=by unfold valP;rw[if_neg (fun h=>by rw[clsAt_of ho,hc]at h;cases h.1)]
   have hag:=agree k (fun t ht j hd hj=>by unfold valP;rw[if_neg (fun h=>f1 t ht j (by omega) hd h.1)])
   have hlo:(sp.getD i (0,ops.size)).1≤k:=by
    rcases f2 with h|⟨s,s1,s2,s3,s4⟩
    ·omega
    ·have hsi:s≠i:=fun e=>by subst e;rw[clsAt_of ho,hc]at s2;cases s2
     have:=(hpr.1 s s1 s2).1 (hanc s hsi s3);omega
   have hhi:k≤(sp.getD i (0,ops.size)).2:=by
    rcases f3 with h|⟨s,s1,s2,s3,s4⟩
    ·have:=hpr.2;omega
    ·have h1:=hanti s s3
     have: ¬cNo ops s<k:=fun h=>by rw[(hpr.1 s s1 s2).2 h]at h1;cases h1
     omega
   have hρ:Rho κ (envL ops L (valP ops val k) env0 ops.size) a.eval:=⟨hI.env hu,fun _=>rfl,fun _=>rfl,fun g=>gav_ok hI.conc g⟩
   rcases hrun k hlo hhi hpr.2 with⟨p,hp,he⟩|⟨f,args,ats,g,caps,h1,h2,h3⟩
   ·rw[←evOp_congr P (HC k) o.op (evA_congr hag)]at he
    rw[←hI.H]at he
    obtain⟨κ',c,r1,r2,r3,r4,r5⟩:=evOp_sound hI.conc hρ o he hp
    refine oper_of hF (not_defer he) r1 ?_
    exact hK k κ' _ (hI.put hu ho hLi hdst r2 r3 (r4.trans hI.H) (by rw[hval];exact r5) (fun h=>by rw[clsAt_of ho,hc]at h;cases h)) hpref
   ·have hcg:=evA_congr hag
    have hfm:f∈o.op.operands.toList:=by rw[h1];simp[Op.operands,Call.operands]
    have ham: ∀x∈args.toList,x∈o.op.operands.toList:=fun x hx=>by rw[h1];simp[Op.operands,Call.operands];exact .inr (by simpa using hx)
    rw[←hcg f hfm]at h2
    have hargs:args.toList.map (evA (envL ops (fun _=>true) val env0 i))=args.toList.map (evA (envL ops L (valP ops val k) env0 ops.size)):=map_congr_left fun x hx=>(hcg x (ham x hx)).symm
    rw[hargs]at h3
    have hfv:=hρ.ev f
    rw[h2]at hfv
    obtain⟨cc,e1,hl⟩:=hfv
    have hvl:VL κ (args.toList.map (evA (envL ops L (valP ops val k) env0 ops.size))++caps) (args.toList.map a.eval++cc.toList):=(VL.map_ev hρ _).append hl
    have hrn:(execOp a.eval o).run P κ.w= .ok (.enter g ((args.toList.map a.eval++cc.toList).toArray)) κ.w:=by
     have e2:(args.map a.eval++cc)=(args.toList.map a.eval++cc.toList).toArray:=by apply Array.toList_inj.1;simp
     unfold execOp
     rw[h1]
     simp[resolve,Deferred.ofValue,e1,invoke,e2,h3.1]
    have hcalls:=h3.2 κ _ hI.conc hI.H hvl
    refine⟨fun f _=>hF.fn f,?_⟩
    rw[Oper.semAt_eq _ _ _ (by intro c e;rw[h1]at e;cases e),hrn]
    refine⟨(fun hdep=>by rw[hF.depth]at hdep;cases hdep),hF.calls (hcalls.mono ?_)⟩
    rintro e w' ⟨r,c,κ',rfl,⟨rfl,q2⟩,rfl,r1,r2,r3⟩
    exact hK k κ' _ (hI.put hu ho hLi hdst r1 r2 q2 (by rw[hval];exact r3) (fun h=>by rw[clsAt_of ho,hc]at h;cases h)) hpref
  |alloc=>
   rw[hc]at hrun hpref
   simp only[reduceCtorEq,if_false]at hpref
   obtain⟨ty,cs,e1,e2,e3,e4,e5⟩:=hrun
   have hki:k≤cNo ops i:=by
    by_cases h:k≤cNo ops i
    ·exact h
    ·obtain⟨s,s1,s2,s3,s4⟩:=cNo_find (ops:=ops) (c:=cNo ops i) (i:=i) (n:=ops.size) (Nat.le_refl _) (by have:=hpr.2;omega) (by omega)
     have hLs:=(hpr.1 s s2 s3).2 (by omega)
     have hos:ops[s]? =some ops[s]:=Array.getElem?_eq_getElem s2
     have hsi:i≠s:=fun e=>by subst e;rw[clsAt_of ho,hc]at s3;cases s3
     rcases(drawOk_spec hok hos).chain (by rw[←clsAt_of hos];exact s3) i (by omega)with h5|h5
     ·rw[clsAt_of ho,hc]at h5;cases h5
     ·rw[hanti s h5]at hLs;cases hLs
   obtain⟨cells,r1,r2,r3⟩:=alloc_raw (P:=P) a.eval κ.w e1 e2 e3
   obtain⟨c1,c2⟩:=hI.conc.alloc (.cells cells ty)
   refine oper_of hF (by intro c e;rw[e1]at e;cases e) (.inl r1) ?_
   refine hK k { κ with w:=κ.w.alloc (.cells cells ty) } _ (hI.put hu ho hLi hdst c1 c2 hI.H ?_ ?_) hpref
   ·unfold valP;rw[if_pos ⟨by rw[clsAt_of ho];exact hc,hki⟩];trivial
   ·intro _ _
    refine⟨κ.w.heap.size,rfl,⟨ty,cs,cells,e4,heap_alloc_new _ _,r2 _,r3,?_,?_,hI.step.size⟩,Nat.le_refl _⟩
    ·rintro⟨b,q1,q2,q3⟩
     have:=hI.conc.lt b q1 q2
     have q3':(κ.ρ b).blk=κ.w.heap.size:=q3
     omega
    ·intro k hk
     have:=hI.conc.swf _ _ hk
     omega
  |chain=>
   have hk:=hrng hc
   rw[hc]at hrun hpref
   simp only[if_true]at hpref
   obtain⟨κA,w1,hA⟩:=hadopt hc
   have hval:valP ops val (k+1) i=val i:=by unfold valP;rw[if_neg (fun h=>by rw[clsAt_of ho,hc]at h;cases h.1)]
   have hag:=agree (k+1) (fun t ht j hd hj=>by unfold valP;rw[if_neg (fun h=>by have:=cNo_mono (ops:=ops) (Nat.le_of_lt hj);omega)])
   have hρ:Rho κA (envL ops L (valP ops val (k+1)) env0 ops.size) a.eval:=⟨hA.env hu,fun _=>rfl,fun _=>rfl,fun g=>gav_ok hA.conc g⟩
   rcases hrun with⟨p,v1,H1,hp,he,hsl⟩|⟨f,args,ats,h1,hcc⟩
   ·rw[←evOp_congr P _ o.op (evA_congr hag),hk]at he
    rw[←hA.H]at he
    obtain⟨κ',c,r1,r2,r3,r4,r5⟩:=evOp_sound hA.conc hρ o he hp
    rw[w1]at r1
    refine oper_of hF (not_defer he) r1 ?_
    obtain⟨κ2,w2,s2,s3,s4,s5⟩:=hsl.step r4 r2 r3 r5
    rw[←w2]
    exact hK (k+1) κ2 _ (hA.put hu ho hLi hdst s3 s4 (by rw[s2,hk]) (by rw[hval];exact s5) (fun h=>by rw[clsAt_of ho,hc]at h;cases h)) hpref
   ·have hcg:=evA_congr hag
    have hfm:f∈o.op.operands.toList:=by rw[h1];simp[Op.operands,Call.operands]
    have ham: ∀x∈args.toList,x∈o.op.operands.toList:=fun x hx=>by rw[h1];simp[Op.operands,Call.operands];exact .inr (by simpa using hx)
    rw[←hcg f hfm]at hcc
    have hargs:args.toList.map (evA (envL ops (fun _=>true) val env0 i))=args.toList.map (evA (envL ops L (valP ops val (k+1)) env0 ops.size)):=map_congr_left fun x hx=>(hcg x (ham x hx)).symm
    rw[hargs,hk]at hcc
    have hfv:=hρ.ev f
    rcases hcc with⟨g,caps,h2,h3⟩|⟨l,h2,h3⟩
    rotate_left
    ·rw[h2]at hfv
     have hfv:a.eval f= .func (.yield l) #[] #[]:=hfv
     have hvl:VL κA (args.toList.map (evA (envL ops L (valP ops val (k+1)) env0 ops.size))) (args.toList.map a.eval):=VL.map_ev hρ _
     obtain⟨fn,tmps,assign,body,hy,hR⟩:=h3 F κA _ hF hA.conc hA.H hvl
     rw[w1]at hy hR
     have hrun:(execOp a.eval o).run P κ.w= .ok (.round l fn tmps assign body) κ.w:=by
      have e2:args.map a.eval=(args.toList.map a.eval).toArray:=by apply Array.toList_inj.1;simp
      unfold execOp
      rw[h1]
      simp[resolve,Deferred.ofValue,hfv,invoke,e2,hy]
     refine⟨fun f _=>hF.fn f,?_⟩
     rw[Oper.semAt_eq _ _ _ (by intro c e;rw[h1]at e;cases e),hrun]
     refine⟨(fun hdep=>by rw[hF.depth]at hdep;cases hdep),hR.mono ?_⟩
     rintro e w' ⟨r,c,κ',rfl,⟨rfl,q2⟩,rfl,r1,r2,r3⟩
     exact hK (k+1) κ' _ (hA.put hu ho hLi hdst r1 r2 q2 (by rw[hval];exact r3) (fun h=>by rw[clsAt_of ho,hc]at h;cases h)) hpref
    rw[h2]at hfv
    obtain⟨cc,e1,hl⟩:=hfv
    have hvl:VL κA (args.toList.map (evA (envL ops L (valP ops val (k+1)) env0 ops.size))++caps) (args.toList.map a.eval++cc.toList):=(VL.map_ev hρ _).append hl
    have hrn:(execOp a.eval o).run P κ.w= .ok (.enter g ((args.toList.map a.eval++cc.toList).toArray)) κ.w:=by
     have e2:(args.map a.eval++cc)=(args.toList.map a.eval++cc.toList).toArray:=by apply Array.toList_inj.1;simp
     unfold execOp
     rw[h1]
     simp[resolve,Deferred.ofValue,e1,invoke,e2,h3.1]
    have hcalls:=h3.2 κA _ hA.conc hA.H hvl
    rw[w1]at hcalls
    refine⟨fun f _=>hF.fn f,?_⟩
    rw[Oper.semAt_eq _ _ _ (by intro c e;rw[h1]at e;cases e),hrn]
    refine⟨(fun hdep=>by rw[hF.depth]at hdep;cases hdep),hF.calls (hcalls.mono ?_)⟩
    rintro e w' ⟨r,c,κ',rfl,⟨rfl,q2⟩,rfl,r1,r2,r3⟩
    exact hK (k+1) κ' _ (hA.put hu ho hLi hdst r1 r2 q2 (by rw[hval];exact r3) (fun h=>by rw[clsAt_of ho,hc]at h;cases h)) hpref
 ·rw[if_neg hw]
  refine⟨fun f _=>hF.fn f,?_⟩
  obtain⟨g,w,b,h1,h2,h3⟩: ∃g w b,o.guard=some (g,w)∧gres (guardV ops g (envL ops (fun _=>true) val env0 i)) w=some b∧Region.wanted o (yielded ops a.tmps)=b:=by
   rcases hguard with⟨_,h⟩|h
   ·exact absurd h hw
   ·exact h
  have hbw:b=false:=by
   cases b with
   |false=>rfl
   |true=>exact absurd h3 hw
  subst hbw
  obtain⟨v1,v2⟩:=hS.pass i o g w ho h1 h2
  have hnal:clsAt ops i≠ .alloc:=fun h=>by
   rw[clsAt_of ho]at h
   rw[(hck.alloc h).1]at h1;cases h1
  have hdst:=hS.dst i o ho
  by_cases hc:clsOp o.op= .chain
  ·have hk:=hrng hc
   rw[if_pos hc]at hpref
   obtain⟨κA,w1,hA⟩:=hadopt hc
   have:=hK (k+1) κA _ (hA.put hu ho hLi hdst (c:=undef) (H':=HC (k+1)) hA.conc (.refl κA) (by rw[hA.H,← hk,v2 hc]) (by unfold valP;rw[if_neg (fun h=>hnal h.1),v1];exact⟨#[],rfl,rfl⟩) (fun h=>absurd h hnal)) hpref
   rw[w1]at this
   exact this
  ·rw[if_neg hc]at hpref
   exact hK k κ _ (hI.put hu ho hLi hdst (c:=undef) (H':=HC k) hI.conc (.refl κ) hI.H (by unfold valP;rw[if_neg (fun h=>hnal h.1),v1];exact⟨#[],rfl,rfl⟩) (fun h=>absurd h hnal)) hpref
end
def Lof(listed:Array Bool):Nat→Bool:=fun i=>listed.getD i false
theorem Lof_set{listed:Array Bool}{i:Nat}(h:i<listed.size):Lof (listed.setIfInBounds i true)=addL (Lof listed) i:=by
 funext j
 unfold Lof addL
 by_cases e:j=i
 ·subst e;simp[Array.getD_eq_getD_getElem?, Array.getElem?_setIfInBounds,h]
 ·simp only[Array.getD_eq_getD_getElem?, Array.getElem?_setIfInBounds,if_neg e]
  rw[if_neg (fun h=>e h.symm)]
def unl(ops:Array Oper)(L:Nat→Bool):Nat:=((List.range ops.size).filter fun i=> !L i).length
theorem unl_add{ops:Array Oper}{L:Nat→Bool}{i:Nat}(hi:i<ops.size)(hL:L i=false):unl ops (addL L i)<unl ops L:=by
 unfold unl
 have key: ∀l:List Nat,(l.filter fun j=> !addL L i j).length≤(l.filter fun j=> !L j).length∧(i∈l→(l.filter fun j=> !addL L i j).length<(l.filter fun j=> !L j).length):=by
  intro l
  induction l with
  |nil=>simp
  |cons x l ih=>
   by_cases e:x=i
   ·subst e
    have h1:addL L x x=true:=by simp[addL]
    simp only[List.filter_cons,h1,hL,Bool.not_true,Bool.not_false,if_true,Bool.false_eq_true,if_false,length_cons]
    exact⟨by have:=ih.1;omega,fun _=>by have:=ih.1;omega⟩
   ·have h1:addL L i x=L x:=by simp[addL,e]
    simp only[List.filter_cons,h1]
    refine⟨?_,fun hm=>?_⟩
    ·have:=ih.1
     split<;>(try simp only[length_cons])<;>omega
    ·have:=ih.2 (by simpa[show i≠x from fun h=>e h.symm]using hm)
     split<;>(try simp only[length_cons])<;>omega
 exact(key _).2 (List.mem_range.2 hi)
section
variable {P:Program} {ops:Array Oper} {sp:List (Nat×Nat)} {nt:Nat} {env0:Env} {H0:Heap} {HC:Nat→Heap} {val:Nat→AV} {bx:Nat→Blk} {E:Cx}
 {F:Fence} {Q:Exit→Act→World→Prop}
theorem ready_mem{listed:Array Bool}{i:Nat}:i∈Region.ready .any ops listed↔i<ops.size∧listed.getD i true=false∧ ∃o,ops[i]? =some o∧ ∀e∈o.after.toList,Region.binds .any e=true→listed.getD e.on false=true:=by
 unfold Region.ready
 rw[List.mem_filter,List.mem_range,Bool.and_eq_true]
 refine and_congr_right fun hi=>and_congr (by simp) ?_
 have ho:ops[i]? =some ops[i]:=Array.getElem?_eq_getElem hi
 rw[ho]
 simp only[Option.map_some,Option.getD_some,Array.all_eq_true',Bool.or_eq_true,Bool.not_eq_true',Option.some.injEq,exists_eq_left']
 exact⟨fun h e he hb=>(h e (by simpa using he)).resolve_left (by rw[hb];simp),fun h e he=>by
  by_cases hb:Region.binds .any e=true
  ·exact .inr (h e (by simpa using he) hb)
  ·exact .inl (by simpa using hb)⟩
theorem getD_Lof{listed:Array Bool}(hs:listed.size=ops.size){i:Nat}(hi:i<ops.size):listed.getD i true=Lof listed i:=by
 unfold Lof
 simp only[Array.getD_eq_getD_getElem?, Array.getElem?_eq_getElem (show i<listed.size by omega),Option.getD_some]
theorem draw_any(hok:drawOk ops sp=true)(hS:Sol P nt ops sp env0 H0 HC val bx)(hF:Wide F)
  (hQ: ∀L κ a,(∀i,i<ops.size→L i=true)→Inv ops nt env0 val bx E L (cNo ops ops.size) (HC (cNo ops ops.size)) κ a→Q .normal a κ.w):
  ∀(fuel:Nat) (listed:Array Bool) (k:Nat) (κ:Cx) (a:Act),listed.size=ops.size→unl ops (Lof listed)≤fuel→Closed ops (Lof listed)→Pref ops (Lof listed) k→
   Inv ops nt env0 val bx E (Lof listed) k (HC k) κ a→wpAnyIn F 0 P .any ops Q fuel listed a κ.w:=by
 have none_ready: ∀(listed:Array Bool),listed.size=ops.size→Region.ready .any ops listed=[]→ ∀i,i<ops.size→Lof listed i=true:=by
  intro listed hs h i
  induction i using Nat.strongRecOn with
  |_ i ih=>
   intro hi
   cases hL:Lof listed i with
   |true=>rfl
   |false=>
    have ho:ops[i]? =some ops[i]:=Array.getElem?_eq_getElem hi
    have:i∈Region.ready .any ops listed:=ready_mem.2 ⟨hi,by rw[getD_Lof hs hi];exact hL,_,ho,fun e he hb=>by
     have hlt:=(drawOk_spec hok ho).edges e he hb
     exact ih e.on hlt (by omega)⟩
    rw[h]at this;cases this
 have fin: ∀(listed:Array Bool) (k:Nat) (κ:Cx) (a:Act),Pref ops (Lof listed) k→Inv ops nt env0 val bx E (Lof listed) k (HC k) κ a→(∀i,i<ops.size→Lof listed i=true)→Q .normal a κ.w:=by
  intro listed k κ a hpr hI hall
  have:k=cNo ops ops.size:=by
   by_cases h:k<cNo ops ops.size
   ·obtain⟨s,_,s2,s3,s4⟩:=cNo_find (ops:=ops) (c:=k) (i:=0) (by simp[cNo]) h (by omega)
    have:=(hpr.1 s s2 s3).1 (hall s s2)
    omega
   ·have:=hpr.2;omega
  subst this
  exact hQ _ κ a hall hI
 intro fuel
 induction fuel with
 |zero=>
  intro listed k κ a hs hn hcl hpr hI
  have hall: ∀i,i<ops.size→Lof listed i=true:=by
   intro i hi
   cases hL:Lof listed i with
   |true=>rfl
   |false=>have:=unl_add hi hL;omega
  refine⟨?_,fin listed k κ a hpr hI hall⟩
  cases hr:Region.ready .any ops listed with
  |nil=>rfl
  |cons i r=>
   have:i∈Region.ready .any ops listed:=by rw[hr];simp
   obtain⟨h1,h2,_⟩:=ready_mem.1 this
   rw[getD_Lof hs h1,hall i h1]at h2;cases h2
 |succ fuel ih=>
  intro listed k κ a hs hn hcl hpr hI
  refine⟨fun hr=>fin listed k κ a hpr hI (none_ready listed hs hr),fun i hi=>?_⟩
  obtain⟨h1,h2,o,ho,h3⟩:=ready_mem.1 hi
  rw[getD_Lof hs h1]at h2
  refine draw_step hok hS hF hI hcl hpr ho h2 h3 ?_
  intro k' κ' a' hI' hpr'
  have hsz:i<listed.size:=by omega
  refine ih _ k' κ' a' (by simp[hs]) ?_ ?_ ?_ ?_
  ·rw[Lof_set hsz];have:=unl_add h1 h2;omega
  ·rw[Lof_set hsz]
   intro j oj hj hLj e he hb
   have hL2:Lof listed e.on=true:=by
    unfold addL at hLj
    split at hLj
    ·rename_i e1;subst e1
     rw[ho]at hj;cases hj
     exact h3 e he hb
    ·exact hcl j oj hj hLj e he hb
   unfold addL;split
   ·rfl
   ·exact hL2
  ·rw[Lof_set hsz];exact hpr'
  ·rw[Lof_set hsz];exact hI'
variable {m:Nat} {R:Exit→St→Prop} {k:List It}
theorem VC.draw{id:Nat}(hm:P.follows .mixedOrders=true)(hok:drawOk ops sp=true)(hS:Sol P nt ops sp env0 H0 HC val bx)
  (h:VC P nt m R k ⟨envL ops (fun _=>true) val env0 ops.size,HC (cNo ops ops.size)++pb ops bx (cNo ops ops.size) ops.size⟩):VC P nt m R (.code (.region id ops true)::k) ⟨env0,H0⟩:=by
 intro F E a w hF hE hg
 have hu:=drawOk_uniq hok
 refine wpIn_region_any hm ?_
 obtain⟨κ,rfl,h2,h3,h4,h5,h6,h7⟩:=hg
 obtain⟨c1,c2⟩:=h3.same (w':={ κ.w with drawn:=κ.w.drawn+1 }) ⟨rfl,rfl,rfl,rfl⟩
 have hLr: ∀i,Lof (Array.replicate ops.size false) i=false:=fun i=>by
  unfold Lof
  simp only[Array.getD_eq_getD_getElem?, Array.getElem?_replicate]
  split<;>rfl
 refine draw_any hok hS hF.1 (E:=E) ?_ ops.size (Array.replicate ops.size false) 0 { κ with w:={ κ.w with drawn:=κ.w.drawn+1 } } a (by simp) ?_ ?_ ?_ ?_
 ·intro L κ' a' hall hI
  obtain⟨κ2,w2,hI2⟩:=hI.adopt hu
   (fun j hj hjk hjn=>⟨hall j hjn,by
    have hoj:ops[j]? =some ops[j]:=Array.getElem?_eq_getElem hjn
    have:=(drawOk_spec hok hoj).alloc (by rw[←clsAt_of hoj];exact hj)
    rw[dstAt_of hoj];exact this.2⟩)
   (fun j hj hjk hjn=>by
    have hoj:ops[j]? =some ops[j]:=Array.getElem?_eq_getElem hjn
    have hal:=(drawOk_spec hok hoj).alloc (by rw[←clsAt_of hoj];exact hj)
    have:=hS.run j _ hoj (fun g w hg=>by rw[hal.1]at hg;cases hg)
    rw[show clsOp ops[j].op= .alloc from by rw[←clsAt_of hoj];exact hj]at this
    obtain⟨ty,cs,_,_,_,_,e⟩:=this
    rw[e,hjk])
  rw[←w2]
  refine h F E a' κ2.w hF hE ⟨κ2,rfl,hI2.H,hI2.conc,hI2.step,hI2.sz,fun t=>?_,hI2.marks⟩
  have:=hI2.env hu t
  by_cases hx: ∃j,dstAt ops j=some t
  ·obtain⟨j,hd⟩:=hx
   have hjn:=dstAt_lt hd
   rw[envL_hit hu rfl hd _ hjn]
   rw[envL_hit hu (hall j hjn) hd _ hjn]at this
   unfold valP at this
   rw[if_neg (fun hh=>by have:=cNo_mono (ops:=ops) (Nat.le_of_lt hjn);omega)]at this
   exact this
  ·rw[envL_miss _ (fun j _ _ hd=>hx ⟨j,hd⟩)]
   rw[envL_miss _ (fun j _ _ hd=>hx ⟨j,hd⟩)]at this
   exact this
 ·unfold unl
  have:=List.length_filter_le (fun i=> !Lof (Array.replicate ops.size false) i) (List.range ops.size)
  simpa using this
 ·intro i o _ hi
  rw[hLr]at hi;cases hi
 ·exact⟨fun s _ _=>by rw[hLr];simp,Nat.zero_le _⟩
 ·refine⟨h2.trans hS.h0.symm,c1,h4.trans c2,h5,fun j d hj=>?_,fun t _=>V.mono c2.toKeep _ _ (h6 t),⟨h7.1,h7.2.step c2⟩,fun j d _ hj=>?_,fun j j' d d' g _ _ hj=>?_⟩
  ·rw[hLr]at hj;cases hj
  ·rw[hLr]at hj;cases hj
  ·rw[hLr]at hj;cases hj
end
structure DS where
 env:Env
 HB:Heap
 pb:List Blk
 vs:List Heap
 ck:List (Nat×Nat×(Heap→Prop))
def sameR(r:Res)(p:Prop)(v:AV)(H:Heap):Prop:=match r with
 | .ok p' v' H'=>(p→p')∧v'=v∧H'=H
 | .bad=>False
def allH(c:Heap→Prop):List Heap→Prop
 |[]=>True
 |h::r=>c h∧allH c r
def ckAll(vs:List Heap):List (Nat×Nat×(Heap→Prop))→Prop
 |[]=>True
 |x::r=>allH x.2.2 ((vs.drop x.1).take (x.2.1+1-x.1))∧ckAll vs r
def hfree:Op→Bool
 | .move _| .assign _| .pick _ _ _| .unOp _ _ _| .binOp _ _ _ _ _| .extract _ _| .field _ _ _| .build _ _| .nilCheck _| .makeFunc _ _ _| .fieldAddr _ _ _=>true
 | .buildSlice t _ _=>decide (¬chainS t)
 | .call { callee:= .builtin .len,.. }=>true
 | .call { callee:= .builtin .min,.. }=>true
 | .call { callee:= .builtin .max,.. }=>true
 |_=>false
section
variable (P:Program) (nt:Nat)
def dPutE(s:DS)(dst:Option Nat)(v:AV):DS:=⟨eput s.env dst v,s.HB,s.pb,s.vs,s.ck⟩
def dPutA(s:DS)(dst:Option Nat)(x:Blk):DS:=⟨eput s.env dst (.lp (s.HB.length+s.pb.length) 0),s.HB,s.pb++[x],s.vs,s.ck⟩
def dPutC(s:DS)(dst:Option Nat)(v:AV)(H':Heap):DS:=⟨eput s.env dst v,H',[],s.vs++[H'],s.ck⟩
def dPutF(s:DS)(dst:Option Nat)(v:AV)(lo hi:Nat)(c:Heap→Prop):DS:=⟨eput s.env dst v,s.HB,s.pb,s.vs,s.ck++[(lo,hi,c)]⟩
def dResH(r:Res)(dst:Option Nat)(s:DS)(K:DS→Prop):Prop:=match r with
 | .ok p v _=>p∧K (dPutE s dst v)
 | .bad=>False
def dResF(op:Op)(r:Res)(dst:Option Nat)(lo hi:Nat)(s:DS)(K:DS→Prop):Prop:=match r with
 | .ok p v _=>p∧K (dPutF s dst v lo hi fun H=>sameR (evOp P s.env H op) p v H)
 | .bad=>False
def dResC(r:Res)(dst:Option Nat)(s:DS)(K:DS→Prop):Prop:=match r with
 | .ok p v H'=>p∧K (dPutC s dst v H')
 | .bad=>False
def dResS2(p:Prop)(b n:Nat)(H':Heap)(x:Option Blk)(dst:Option Nat)(s:DS)(K:DS→Prop):Prop:=match x with
 |some (.row el sz es _)=>(p∧es.length=n∧pureE es)∧K (dPutC s dst (.lst false sz es) (sealH b el sz es H'))
 |_=>False
def dResS(r:Res)(dst:Option Nat)(s:DS)(K:DS→Prop):Prop:=match r with
 | .ok p (.row b n) H'=>dResS2 p b n H' H'[b]? dst s K
 |_=>False
def dResA(z:Option (List AV))(ty:TypeId)(dst:Option Nat)(s:DS)(K:DS→Prop):Prop:=match z with
 |some cs=>cs.all AV.oneA=true∧K (dPutA s dst (.box ty cs false))
 |none=>False
def dCallP(g:FuncId)(args args':List AV)(dst:Option Nat)(lo hi:Nat)(s:DS)(K:DS→Prop):Prop:=
 ∃v c,(∀H,c H→HCH P g args H fun r H'=>r=v∧H'=H)∧K (dPutF s dst v lo hi c)
def dCallF(f:AV)(args:List AV)(dst:Option Nat)(lo hi:Nat)(s:DS)(K:DS→Prop):Prop:=match f with
 | .fn g caps=>dCallP P g (args++caps) (frA s.HB (args++caps)) dst lo hi s K
 |_=>False
def dCallC(g:FuncId)(args args':List AV)(dst:Option Nat)(s:DS)(K:DS→Prop):Prop:=
 ∃v Hx,(HCH P g args (s.HB++s.pb) fun r H'=>r=v∧H'=Hx)∧K (dPutC s dst v Hx)
def dCallY(l:Nat)(args:List AV)(dst:Option Nat)(s:DS)(K:DS→Prop):Prop:=
 ∃v Hx,(HCY P l args (s.HB++s.pb) fun r H'=>r=v∧H'=Hx)∧K (dPutC s dst v Hx)
def dCallT(f:AV)(args:List AV)(dst:Option Nat)(s:DS)(K:DS→Prop):Prop:=match f with
 | .fn g caps=>dCallC P g (args++caps) (frA (s.HB++s.pb) (args++caps)) dst s K
 | .yld l=>dCallY P l args dst s K
 |_=>False
def dRun(dst:Option Nat)(op:Op)(lo hi:Nat)(s:DS)(K:DS→Prop):Prop:=
 match clsOp op with
 | .alloc=>match op with
  | .alloc ty=>dResA (zeroT P ty) ty dst s K
  |_=>False
 | .chain=>match op with
  | .call { callee:= .builtin .append,.. }=>if lo=99 then dResS (evOp P s.env (s.HB++s.pb) op) dst s K else dResC (evOp P s.env (s.HB++s.pb) op) dst s K
  | .call { callee:= .value f,args,.. }=>dCallT P (evA s.env f) (args.toList.map (evA s.env)) dst s K
  |op=>dResC (evOp P s.env (s.HB++s.pb) op) dst s K
 | .free=>match hfree op with
  |true=>dResH (evOp P s.env s.HB op) dst s K
  |false=>match op with
   | .call { callee:= .value f,args,.. }=>dCallF P (evA s.env f) (args.toList.map (evA s.env)) dst lo hi s K
   |op=>dResF P op (evOp P s.env s.HB op) dst lo hi s K
def dPass(dst:Option Nat)(op:Op)(s:DS)(K:DS→Prop):Prop:=
 match clsOp op with
 | .chain=>K (dPutC s dst (.tup []) (s.HB++s.pb))
 |_=>K (dPutE s dst (.tup []))
def gdV(env:Env)(g:Option Nat):AV:=match g with|some d=>eget env d|none=> .any
def vcDG(g:AV)(w:Bool)(dst:Option Nat)(op:Op)(lo hi:Nat)(s:DS)(K:DS→Prop):Prop:=match g with
 | .bool b=>(b=w→dRun P dst op lo hi s K)∧(b≠w→dPass dst op s K)
 | .tup []=>dPass dst op s K
 |_=>False
def vcD(fin:DS→Prop):List (COp×Nat×Nat)→DS→Prop
 |[],s=>ckAll s.vs s.ck∧fin s
 |x::r,s=>dstOk nt x.1.dst∧match x.1.gd with
  |none=>dRun P x.1.dst x.1.op x.2.1 x.2.2 s (vcD fin r)
  |some gw=>vcDG P (gdV s.env gw.1) gw.2 x.1.dst x.1.op x.2.1 x.2.2 s (vcD fin r)
def FreeOk(env:Env)(op:Op)(v:AV)(H:Heap):Prop:=(∃p,p∧evOp P env H op= .ok p v H)∨
 ∃f args ats g caps,op= .call { callee:= .value f,args:=args,argTypes:=ats }∧evA env f= .fn g caps∧HCH P g (args.toList.map (evA env)++caps) H fun r H'=>r=v∧H'=H
def RunR(dst:Option Nat)(op:Op)(lo hi:Nat)(s:DS)(v:AV)(x:Blk)(s':DS):Prop:=
 match clsOp op with
 | .alloc=> ∃ty cs,op= .alloc ty∧zeroT P ty=some cs∧cs.all AV.oneA=true∧x= .box ty cs false∧v= .lp (s.HB.length+s.pb.length) 0∧s'=dPutA s dst x
 | .chain=>(∃p v1 H1 H',p∧evOp P s.env (s.HB++s.pb) op= .ok p v1 H1∧Sld v1 H1 v H'∧s'=dPutC s dst v H')∨
   ∃f args ats H',op= .call { callee:= .value f,args:=args,argTypes:=ats }∧ChCall P (evA s.env f) (args.toList.map (evA s.env)) (s.HB++s.pb) v H'∧s'=dPutC s dst v H'
 | .free=>(∀H,FreeOk P s.env op v H)∧s'=dPutE s dst v∨ ∃c,(∀H,c H→FreeOk P s.env op v H)∧s'=dPutF s dst v lo hi c
def PassR(dst:Option Nat)(op:Op)(s:DS)(v:AV)(s':DS):Prop:=
 v= .tup []∧s'=match clsOp op with| .chain=>dPutC s dst (.tup []) (s.HB++s.pb)|_=>dPutE s dst (.tup [])
def StepR(x:COp×Nat×Nat)(s:DS)(v:AV)(b:Blk)(s':DS):Prop:=
 dstOk nt x.1.dst∧match x.1.gd with
  |none=>RunR P x.1.dst x.1.op x.2.1 x.2.2 s v b s'
  |some gw=> ∃t,gres (gdV s.env gw.1) gw.2=some t∧(t=true→RunR P x.1.dst x.1.op x.2.1 x.2.2 s v b s')∧(t=false→PassR x.1.dst x.1.op s v s')
end
def Res.at(r:Res)(H2:Heap):Res:=match r with| .ok p v _=> .ok p v H2| .bad=> .bad
theorem ofO_at{p:Prop}{H H2:Heap}{o:Option AV}:(ofO p H o).at H2=ofO p H2 o:=by cases o<;>rfl
theorem aggEq_at{P:Program}{H H2:Heap}{op:BinOp}{t:TypeId}{x y:AV}:(aggEq P H op t x y).at H2=aggEq P H2 op t x y:=by
 unfold aggEq
 repeat' (first|rfl|exact ofO_at|split)
 all_goals (first|rfl|exact ofO_at|simp_all)
theorem eqY_at{P:Program}{H H2:Heap}{op:BinOp}{t:TypeId}{x y:AV}{o:Option Bool}:(eqY P H op t x y o).at H2=eqY P H2 op t x y o:=by
 cases o with
 |none=>exact aggEq_at
 |some b=>cases op<;>rfl
theorem lenS_at{P:Program}{H H2:Heap}{t:TypeId}{x:AV}:(lenS P H t x).at H2=lenS P H2 t x:=by
 unfold lenS;repeat' (first|rfl|split)
theorem idxS_at{P:Program}{H H2:Heap}{t:TypeId}{x:AV}{j:Option Int}:(idxS P H t x j).at H2=idxS P H2 t x j:=by
 unfold idxS;repeat' (first|rfl|split)
theorem evOp_hfree{P:Program}{env:Env}{op:Op}(h:hfree op=true){H H1:Heap}{p:Prop}{v:AV}(he:evOp P env H op= .ok p v H1)(H2:Heap):evOp P env H2 op= .ok p v H2:=by
 have key:evOp P env H2 op=(evOp P env H op).at H2:=by
  cases op<;>simp only[hfree]at h<;>try cases h
  case call c=>
   obtain⟨cl,args,ats⟩:=c
   cases cl with
   |builtin b=>
    cases b<;>simp only[Bool.false_eq_true]at h
    all_goals
     simp only[evOp]
     generalize args.toList=al
     generalize ats.toList=tl
     repeat' (first|rfl|exact lenS_at.symm|split)
     all_goals simp_all
   |_=>cases h
  case buildSlice t n ps=>
   have h: ¬chainS t:=by first|exact of_decide_eq_true h|exact fun q=>(show False from q)
   simp only[evOp,h,false_and,if_false]
   repeat' (first|rfl|split)
   all_goals simp_all [Res.at]
  case unOp o t x=>cases o<;>simp only[evOp]<;>(repeat' (first|rfl|split))<;>simp_all
  case binOp o t x y u=>
   simp only[evOp]
   split
   ·rfl
   ·exact eqY_at.symm
  case makeFunc a b c=>
   cases a<;>simp only[evOp]<;>first|rfl|(split<;>first|rfl|(split<;>rfl))
  all_goals
   simp only[evOp]
   repeat' (first|rfl|exact ofO_at.symm|exact idxS_at.symm|exact strS_at.symm|split)
  all_goals (first|rfl|exact ofO_at.symm|simp_all [Res.at])
 rw[key,he];rfl
theorem dCallY_mk{P:Program}{l:Nat}{args:List AV}{dst:Option Nat}{s:DS}{K:DS→Prop}{v:AV}{H H':Heap}(hH:s.HB++s.pb=H)(hy:HCY P l args H fun r H2=>r=v∧H2=H')(h:K (dPutC s dst v H')):dCallY P l args dst s K:=
 ⟨v,H',by rw[hH];exact hy,h⟩
attribute [irreducible] dCallP dCallC dCallY
end Go.Fl
