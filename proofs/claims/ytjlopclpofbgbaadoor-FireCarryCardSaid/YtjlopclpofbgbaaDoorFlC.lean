/- A framework of general lemmas over the model (an abstract machine); no statement of the seat is proved here, and none has a condition. -/
import Derived.Test.YtjlopclpofbgbaaDoorFlB
import Derived.Carry
import Derived.Deep.Slices
import Derived.Deep.Fields
import Derived.JoinedOf
import Derived.Handed
import Derived.ProofKit
set_option linter.unusedSectionVars false
set_option linter.unusedSimpArgs false
set_option linter.unusedVariables false
namespace Go.Fl
open Go.RowKit Go.ChangeShapes Go.WideShapes Go.Deep
def S0 (W : World) (g o : Nat) : Prop := (W.cell? ⟨g, o, none⟩).isSome = true
def κ0 (W : World) : Cx := { S := S0 W, w := W, ρ := fun _ => ⟨0, 0, true, none⟩, H := [] }
theorem κ0_conc (W : World) (hg : ∀ x, x ∈ gtab → PVC (S0 W) W (x.2.2.map (.int x.2.1)) ⟨x.1, 0, none⟩) : Conc (κ0 W) := by
  refine ⟨fun b x hb => (by have hb : ([] : Heap)[b]? = some x := hb; simp at hb), fun b b' hb => absurd hb (Nat.not_lt_zero _), fun b hb => absurd hb (Nat.not_lt_zero _), fun g o hs => ?_, hg⟩
  have hs : (W.cell? ⟨g, o, none⟩).isSome = true := hs
  show g < W.heap.size
  unfold World.cell? at hs
  cases h : W.heap[g]? with
  | none => simp [h] at hs
  | some x => exact (Array.getElem?_eq_some_iff.1 h).1
theorem below_of {W : World} {κ' : Cx} (h : StepM (κ0 W) κ') : Below W.heap.size W κ'.w :=
  ⟨h.os, h.tape, h.output, h.size, fun k hk => h.frame k hk fun ⟨b, hb, _⟩ => absurd hb (Nat.not_lt_zero _)⟩
def intT (P : Program) (t : TypeId) : Bool := match P.underlying t with | some (.int .i64) => true | _ => false
abbrev iv (n : Int) : AV := .int .i64 n
section
variable {H : Type} {enc : TypeId × Value → H} {P : Program} {W : World} {base : Nat} {spare : Nat → Bool} {held : Bool}
theorem PVC.of_ints {g : Nat} : ∀ (ns : List Int) (off : Nat), (∀ (j : Nat) (n : Int), ns[j]? = some n → W.cell? ⟨g, off + j, none⟩ = some (.int .i64 n)) → PVC (S0 W) W (ns.map iv) ⟨g, off, none⟩
  | [], _, _ => trivial
  | n :: ns, off, h => by
    have h0 := h 0 n rfl
    refine ⟨⟨.int .i64 n, h0, by show (W.cell? ⟨g, off, none⟩).isSome = true; rw [show W.cell? ⟨g, off, none⟩ = _ from h0]; rfl, rfl, rfl⟩, PVC.of_ints ns (off + 1) fun j m hj => ?_⟩
    have := h (j + 1) m (by simpa using hj)
    rwa [show off + (j + 1) = off + 1 + j from by omega] at this
theorem PVE.of_get {g sz : Nat} : ∀ (es : List (List AV)) (off : Nat), (∀ (i : Nat) (e : List AV), es[i]? = some e → PVC (S0 W) W e ⟨g, off + i * sz, none⟩) → PVE (S0 W) W sz es ⟨g, off, none⟩
  | [], _, _ => trivial
  | e :: es, off, h => by
    refine ⟨by simpa using h 0 e rfl, PVE.of_get es (off + sz) fun i e' he => ?_⟩
    have := h (i + 1) e' (by simpa using he)
    rwa [show off + (i + 1) * sz = off + sz + i * sz from by rw [Nat.add_mul]; omega] at this
theorem cell_slice2 {r : Reach} {b0 : Nat} {t : TypeId} {v : Value} (ht : (match P.underlying t with | some (.slice _) => true | _ => false) = true) (hv : Cell.okWide P W r b0 t v) : ∃ a len cap, v = .slice a len cap ∧ ∀ ad, a = some ad → ad.spot = none := by
  split at ht
  · rename_i e hs
    simp only [Cell.okWide, hs, Cell.ok] at hv
    split at hv
    all_goals first | (rename_i h1 _; cases h1; done) | (rename_i h1; cases h1; done) | skip
    all_goals simp_all
    all_goals first | exact hv.2.2.2.1 | (obtain ⟨_, _, _, h, _⟩ := hv; exact h) | skip
  · cases ht
end
end Go.Fl
set_option linter.unusedSectionVars false
set_option linter.unusedSimpArgs false
set_option linter.unusedVariables false
namespace Go.Fl
open Go.RowKit Go.ChangeShapes Go.WideShapes Go.Deep
section
variable {H : Type} {enc : TypeId × Value → H} {P : Program} {W : World} {base : Nat} {spare : Nat → Bool} {held : Bool}
theorem read_int {t : TypeId} {n : Nat} {c : Value} {y : DataW H × List MemPlace} (ht : intT P t = true) (h : DataW.trod enc P W base spare held n t [c] = some y) : ∃ k : Int, c = .int .i64 k := by
  unfold intT at ht
  split at ht
  · rename_i hi
    obtain ⟨k, hk, _⟩ := DataW.trod_int hi h
    exact ⟨k, by simpa using hk⟩
  · cases ht
theorem lift_int {t : TypeId} {r : Reach} {b0 : Nat} {v : Value} {d : DataW H} {p : List MemPlace} (ht : intT P t = true) (hv : Value.okWide P W r b0 t v) (h : DataW.Trod enc P W base spare held t v d p) : ∃ k : Int, v = .int .i64 k := by
  unfold intT at ht
  split at ht
  · rename_i hi
    obtain ⟨n, rfl, _⟩ := open_int hi hv h
    exact ⟨n, rfl⟩
  · cases ht
theorem Below.trodAll {W' : World} {spare' : Nat → Bool} (hl : laidOutB P = true) (hb : Below W.heap.size W W') : ∀ (ts : List TypeId) (vs : List Value) (ds : List (DataW H)) (ps : List MemPlace), (∀ t ∈ ts, P.readableRec t = true ∧ t < P.types.size) →
    DataW.TrodAll enc P W 0 (fun _ => true) true ts vs ds ps → (∀ x ∈ ps, x.block < W.heap.size ∧ spare' x.block = true) → DataW.TrodAll enc P W' 0 spare' true ts vs ds ps
  | [], [], [], _, _, h, _ => h
  | t :: ts, v :: vs, d :: ds, _, hr, ⟨p, q, h1, h2, e⟩, hs => by
    subst e
    exact ⟨p, q, WideElems.Trod_stays hl (hr t (by simp)).1 (hr t (by simp)).2 h1 (fun x hx => hb.same (hs x (by simp [hx])).1) (fun x hx => (hs x (by simp [hx])).2),
      Below.trodAll hl hb ts vs ds q (fun t' ht => hr t' (by simp [ht])) h2 (fun x hx => hs x (by simp [hx])), rfl⟩
theorem post_true {f : Func} {s : ChangeSpec} {apart fresh handsOn again : Bool} {W W' : World} {args : Array Value} {ds gs : List (DataW H)} {before : List MemPlace} {tb : TypeId}
    (hW : DataW.Whole enc P f.params.toList s.vars apart W args.toList ds gs before) (hb : Below W.heap.size W W') (hres : f.resultTypes = #[tb]) (hbool : P.underlying tb = some .bool) (hvars : s.vars = [])
    (hspec : s.fn H (ds ++ []) = { results := [.lit (.bool true)], args := ds }) (hl : laidOutB P = true) (hr : ∀ t ∈ f.params.toList, P.readableRec t = true ∧ t < P.types.size) :
    s.post enc P f apart fresh handsOn again W args (.bool true) W' := by
  have hW0 := hW
  obtain ⟨p, q, hA, hV, rfl, hz, hn⟩ := hW
  rw [hvars] at hV
  obtain ⟨rfl, rfl⟩ := trodVars_none hV
  have hlt : ∀ x ∈ p, x.block < W.heap.size := fun x hx => hW0.lt x (by simp [hx])
  have hargs : ∀ sp : Nat → Bool, (∀ x ∈ p, sp x.block = true) → DataW.TrodAll enc P W' 0 sp true f.params.toList args.toList (s.fn H (ds ++ [])).args p := fun sp hsp => by
    rw [hspec]; exact Below.trodAll hl hb _ _ _ _ hr hA fun x hx => ⟨hlt x hx, hsp x hx⟩
  have hresd : ∀ (b : Nat) (sp : Nat → Bool) (hd : Bool), DataW.TrodAll enc P W' b sp hd f.resultTypes.toList ((Value.bool true).resultList f.resultTypes.size) (s.fn H (ds ++ [])).results [] := fun b sp hd => by
    rw [hspec, hres]; exact trodAll_mk1 (shut_bool hbool true)
  have hvs : ∀ sp : Nat → Bool, DataW.TrodVars enc P W' sp s.vars (s.fn H (ds ++ [])).vars [] := fun sp => by
    rw [hspec, hvars]; rfl
  have hold : ∀ x ∈ p, (fun b => decide (b < W.heap.size)) x.block = true := fun x hx => by simpa using hlt x hx
  refine ⟨ds, [], p ++ [], [], p, [], hW0, hresd _ _ _, hargs _ hold, hvs _, World.keptBut_mono (fun x hx => ⟨hx, ?_⟩) (hb.frame (· ∈ p ++ [])), fun _ => ?_⟩
  · exact Or.inr (List.mem_append.1 hx)
  · refine ⟨ok_one hres rfl (okWide_bool_mk hbool true), _, _, ([] ++ p) ++ [], ⟨[] ++ p, [], trodAll_append (hargs _ (fun _ _ => rfl)) (hresd _ _ _), hvs _, rfl, ?_, ?_⟩, ?_⟩
    · intro b off hp
      have hp' : MemPlace.cell b off ∈ p := by simpa using hp
      rw [hb.frozen (p := ⟨b, off, none⟩) (hlt _ hp')]
      exact hz b off (by simpa using hp)
    · intro ha
      simpa using hn ha
    · intro x hx _
      simpa using hx
end
end Go.Fl
set_option linter.unusedSectionVars false
set_option linter.unusedSimpArgs false
set_option linter.unusedVariables false
namespace Go.Fl
open Go.RowKit Go.ChangeShapes Go.WideShapes Go.Deep
theorem trodAll_length {H : Type} {enc : TypeId × Value → H} {P : Program} {W : World} {base : Nat} {spare : Nat → Bool} {held : Bool} : ∀ {ts : List TypeId} {vs : List Value} {ds : List (DataW H)} {ps : List MemPlace}, DataW.TrodAll enc P W base spare held ts vs ds ps → vs.length = ts.length ∧ ds.length = ts.length
  | [], [], [], _, _ => ⟨rfl, rfl⟩
  | _ :: _, _ :: _, _ :: _, _, ⟨_, _, _, h, _⟩ => by have := trodAll_length h; simp [this]
end Go.Fl
set_option linter.unusedSectionVars false
set_option linter.unusedSimpArgs false
set_option linter.unusedVariables false
namespace Go.Fl
open Go.RowKit Go.ChangeShapes Go.WideShapes Go.Deep
def flatFs (r : TypeId → Nat → Bool) (P : Program) : List Field → Nat → Nat → Bool
  | [], pos, sz => pos == sz
  | f :: fs, pos, sz => f.offset == pos && r f.type (P.cellsOf f.type) && flatFs r P fs (pos + P.cellsOf f.type) sz
def flatR (P : Program) : Nat → TypeId → Nat → Bool
  | 0, _, _ => false
  | n + 1, t, sz => match P.underlying t with
    | some (.int .i64) => sz == 1
    | some (.struct fs) => flatFs (flatR P n) P fs.toList 0 sz
    | _ => false
theorem flatFs_at {P : Program} {n : Nat} : ∀ {fs : List Field} {pos sz p : Nat}, flatFs (flatR P n) P fs pos sz = true → pos ≤ p → p < sz → ∃ (i : Nat) (f : Field), fs[i]? = some f ∧ f.offset ≤ p ∧ p < f.offset + P.cellsOf f.type ∧ flatR P n f.type (P.cellsOf f.type) = true
  | [], pos, sz, p, h, h1, h2 => by unfold flatFs at h; simp at h; omega
  | f :: fs, pos, sz, p, h, h1, h2 => by
    unfold flatFs at h
    simp only [Bool.and_eq_true, beq_iff_eq] at h
    obtain ⟨⟨a, b⟩, c⟩ := h
    by_cases hp : p < pos + P.cellsOf f.type
    · exact ⟨0, f, rfl, by omega, by omega, b⟩
    · obtain ⟨i, g, q1, q2⟩ := flatFs_at c (by omega) h2
      exact ⟨i + 1, g, by simpa using q1, q2⟩
theorem wf_i64 {n : Int} (h : (Lit.int .i64 n).wf = true) : I64 n := by
  have e1 : IntKind.i64.min = -9223372036854775808 := by decide
  have e2 : IntKind.i64.max = 9223372036854775807 := by decide
  simp [Lit.wf, e1, e2] at h
  simp [I64]; omega
section
variable {H : Type} {enc : TypeId × Value → H} {P : Program} {W : World} {base : Nat} {spare : Nat → Bool} {held : Bool}
theorem read_flatR : ∀ (m : Nat) {e : TypeId} {sz n : Nat} {cs : List Value} {x : DataW H × List MemPlace}, flatR P m e sz = true → cs.length = sz → DataW.trod enc P W base spare held n e cs = some x → ∃ ns : List Int, ns.length = sz ∧ cs = ns.map (Value.int .i64) ∧ ∀ k, k ∈ ns → I64 k
  | 0, e, sz, n, cs, x, hf, _, _ => by simp [flatR] at hf
  | m + 1, e, sz, n, cs, x, hf, hl, h => by
    unfold flatR at hf
    split at hf
    · rename_i hi
      obtain ⟨k, hk, _, hw⟩ := DataW.trod_int hi h
      exact ⟨[k], by simpa [hk] using hl, by simpa using hk, fun q hq => by simp at hq; subst hq; exact wf_i64 hw⟩
    · rename_i fs hs
      obtain ⟨ys, n', _, _, hcl, hyl, hg⟩ := DataW.trod_struct hs h
      have key : ∀ j (hj : j < cs.length), ∃ k : Int, cs[j] = .int .i64 k ∧ I64 k := by
        intro j hj
        obtain ⟨i, f, hi, h1, h2, h3⟩ := flatFs_at hf (Nat.zero_le j) (by omega)
        have hfi : fs[i]? = some f := by simpa using hi
        have ht := hg i f hfi
        have hil : i < fs.size := by have := (Array.getElem?_eq_some_iff.1 hfi).1; omega
        rw [List.getElem?_eq_getElem (by omega)] at ht
        have hlen : f.offset + P.cellsOf f.type ≤ cs.length ∨ ¬ f.offset + P.cellsOf f.type ≤ cs.length := by omega
        by_cases hlen : f.offset + P.cellsOf f.type ≤ cs.length
        · obtain ⟨ns, g1, g2, g3⟩ := read_flatR m h3 (by rw [List.length_take, List.length_drop]; omega) ht
          have e1 : ((cs.drop f.offset).take (P.cellsOf f.type))[j - f.offset]? = some cs[j] := by
            rw [List.getElem?_take, if_pos (by omega), List.getElem?_drop, show f.offset + (j - f.offset) = j from by omega, List.getElem?_eq_getElem hj]
          rw [g2, List.getElem?_map] at e1
          obtain ⟨k, q1, q2⟩ := Option.map_eq_some_iff.1 e1
          exact ⟨k, q2.symm, g3 k (List.mem_of_getElem? q1)⟩
        · exfalso
          have key2 : ∀ (fs : List Field) (pos : Nat) (i : Nat), flatFs (flatR P m) P fs pos sz = true → fs[i]? = some f → f.offset + P.cellsOf f.type ≤ sz := by
            intro fs
            induction fs with
            | nil => intro pos i _ hi; simp at hi
            | cons g fs ih =>
              intro pos i hq hi
              unfold flatFs at hq
              simp only [Bool.and_eq_true, beq_iff_eq] at hq
              have mono : ∀ (fs : List Field) (pos : Nat), flatFs (flatR P m) P fs pos sz = true → pos ≤ sz := by
                intro fs
                induction fs with
                | nil => intro pos hq; unfold flatFs at hq; simp at hq; omega
                | cons g fs ih =>
                  intro pos hq
                  unfold flatFs at hq
                  simp only [Bool.and_eq_true, beq_iff_eq] at hq
                  have := ih _ hq.2
                  omega
              cases i with
              | zero => simp at hi; subst hi; have := mono _ _ hq.2; omega
              | succ i => exact ih _ i hq.2 (by simpa using hi)
          have := key2 _ _ i hf hi
          omega
      refine ⟨cs.map fun v => match v with | .int _ k => k | _ => 0, by simpa using hl, ?_, ?_⟩
      · apply List.ext_getElem
        · simp
        · intro j hj _
          obtain ⟨k, hk, _⟩ := key j hj
          simp [hk]
      · intro k hk
        obtain ⟨v, hv, rfl⟩ := List.mem_map.1 hk
        obtain ⟨j, hj, rfl⟩ := List.mem_iff_getElem.1 hv
        obtain ⟨k, q1, q2⟩ := key j hj
        rw [q1]; exact q2
    · cases hf
def sliceR (P : Program) (t : TypeId) (sz : Nat) : Bool := match P.underlying t with | some (.slice e) => P.cellsOf e == sz && flatR P 5 e sz | _ => false
def isSlice (P : Program) (t : TypeId) : Bool := match P.underlying t with | some (.slice _) => true | _ => false
theorem sliceR_is {t : TypeId} {sz : Nat} (h : sliceR P t sz = true) : isSlice P t = true := by
  unfold sliceR at h; unfold isSlice
  split at h
  · rfl
  · cases h
theorem lift_sliceR {t : TypeId} {sz fuel : Nat} {a : Option Addr} {len cap : Nat} {x : DataW H × List MemPlace} (hsp : ∀ ad, a = some ad → ad.spot = none) (ht : sliceR P t sz = true) (h : DataW.trod enc P W base spare held fuel t [.slice a len cap] = some x) :
    ∃ ess : List (List Int), (∀ e, e ∈ ess → e.length = sz ∧ ∀ k, k ∈ e → I64 k) ∧ PV (S0 W) W (.lst false sz (ess.map fun e => e.map iv)) (.slice a len cap) := by
  unfold sliceR at ht
  split at ht
  · rename_i e hs
    simp only [Bool.and_eq_true, beq_iff_eq] at ht
    obtain ⟨hC, hf⟩ := ht
    rcases open_slice hs h with ⟨hcs, _⟩ | ⟨a', len', cap', m, n, D, Pl, hcs, hb, hl, hm, hmm, hx, hi⟩
    · simp only [List.cons.injEq, Value.slice.injEq, and_true] at hcs
      obtain ⟨rfl, rfl, rfl⟩ := hcs
      exact ⟨[], by simp, none, 0, rfl, by simp, by simp [maxLen], by simp, by simp, by simp, by simp⟩
    · simp only [List.cons.injEq, Value.slice.injEq, and_true] at hcs
      obtain ⟨rfl, rfl, rfl⟩ := hcs
      have hlm : len ≤ m := by rw [hmm]; split <;> omega
      have hspa := hsp _ rfl
      obtain ⟨g, off, sp⟩ := a'
      simp only at hspa
      subst hspa
      have key : ∀ i, i < len → ∃ ns : List Int, (ns.length = sz ∧ ∀ k, k ∈ ns → I64 k) ∧ ∀ (j : Nat) (k : Int), ns[j]? = some k → W.cell? ⟨g, off + i * sz + j, none⟩ = some (.int .i64 k) := by
        intro i hil
        obtain ⟨cs', hc, htr⟩ := hi i (by omega)
        obtain ⟨_, hcl, hat⟩ := World.cells?_some hc
        rw [hC] at hcl hat
        obtain ⟨ns, h1, h2, h3⟩ := read_flatR 5 hf hcl htr
        refine ⟨ns, ⟨h1, h3⟩, fun j k hj => ?_⟩
        have hjl : j < sz := by have := (List.getElem?_eq_some_iff.1 hj).1; omega
        have := hat j hjl
        rw [h2, List.getElem?_map, hj, add_add] at this
        unfold Addr.add at this
        split at this
        · rename_i h0
          rw [show off + i * sz + j = off from by omega]; exact this
        · rw [show off + i * sz + j = off + (i * sz + j) from by omega]; exact this
      classical
      refine ⟨(List.range len).map fun i => if hh : i < len then Classical.choose (key i hh) else [], fun e he => ?_, some ⟨g, off, none⟩, cap, by simp, by simpa using hl, hm, by simp, fun ad ha => ?_, by simp, fun e he => ?_⟩
      · obtain ⟨i, hi2, rfl⟩ := List.mem_map.1 he
        have hil := List.mem_range.1 hi2
        rw [dif_pos hil]
        exact (Classical.choose_spec (key i hil)).1
      · cases ha
        refine ⟨fun _ => rfl, PVE.of_get _ _ fun i e he => ?_⟩
        rw [List.getElem?_map, List.getElem?_map] at he
        have hil : i < len := by
          rcases Nat.lt_or_ge i len with h | h
          · exact h
          · rw [List.getElem?_eq_none (by simpa using h)] at he; cases he
        rw [List.getElem?_range hil] at he
        simp only [Option.map_some, dif_pos hil, Option.some.injEq] at he
        subst he
        exact PVC.of_ints _ _ (Classical.choose_spec (key i hil)).2
      · obtain ⟨e0, he0, rfl⟩ := List.mem_map.1 he
        obtain ⟨i, hi2, rfl⟩ := List.mem_map.1 he0
        have hil := List.mem_range.1 hi2
        rw [dif_pos hil, List.length_map]
        exact (Classical.choose_spec (key i hil)).1.1
  · cases ht
theorem lift_intsR {t : TypeId} {sz : Nat} {r : Reach} {b0 : Nat} {v : Value} {d : DataW H} {p : List MemPlace} (ht : sliceR P t sz = true) (hv : Value.okWide P W r b0 t v) (h : DataW.Trod enc P W base spare held t v d p) :
    ∃ ess : List (List Int), (∀ e, e ∈ ess → e.length = sz ∧ ∀ k, k ∈ e → I64 k) ∧ PV (S0 W) W (.lst false sz (ess.map fun e => e.map iv)) v := by
  have hs : ∃ e, P.underlying t = some (.slice e) := by
    unfold sliceR at ht
    split at ht
    · exact ⟨_, by assumption⟩
    · cases ht
  obtain ⟨e, hs⟩ := hs
  have hv' : Cell.okWide P W r b0 t v := by simpa only [Value.okWide, hs] using hv
  obtain ⟨a, len, cap, rfl, hsp⟩ := cell_slice2 (by rw [hs]) hv'
  obtain ⟨fuel, hf⟩ := h
  exact lift_sliceR hsp ht (by simpa [Value.cells] using hf)
def structR (P : Program) (t : TypeId) (sz : Nat) : Bool := match P.underlying t with | some (.struct _) => P.cellsOf t == sz && flatR P 5 t sz | _ => false
theorem lift_structR {t : TypeId} {sz : Nat} {r : Reach} {b0 : Nat} {v : Value} {d : DataW H} {p : List MemPlace} (ht : structR P t sz = true) (hv : Value.okWide P W r b0 t v) (h : DataW.Trod enc P W base spare held t v d p) :
    ∃ ns : List Int, ns.length = sz ∧ (∀ k, k ∈ ns → I64 k) ∧ PV (S0 W) W (.agg (ns.map iv)) v := by
  unfold structR at ht
  split at ht
  · rename_i fs hs
    simp only [Bool.and_eq_true, beq_iff_eq] at ht
    obtain ⟨hC, hf⟩ := ht
    simp only [Value.okWide, hs] at hv
    obtain ⟨cs, rfl, hsz, _⟩ := hv
    obtain ⟨fuel, htr⟩ := h
    have hcells : (Value.cells (.agg cs)).toList = cs.toList := by simp [Value.cells]
    rw [hcells] at htr
    obtain ⟨ns, h1, h2, h3⟩ := read_flatR 5 hf (by simp [hsz, hC]) htr
    refine ⟨ns, h1, h3, cs, rfl, ?_⟩
    rw [h2]
    clear h1 h2 h3
    induction ns with
    | nil => rfl
    | cons n ns ih => exact ⟨_, _, rfl, rfl, ih⟩
  · cases ht
end
end Go.Fl
set_option linter.unusedSectionVars false
set_option linter.unusedSimpArgs false
set_option linter.unusedVariables false
namespace Go.Fl
open Go.RowKit Go.ChangeShapes Go.WideShapes Go.Deep
theorem law_carded {H : Type} {enc : TypeId × Value → H} {a : Assume} {C : Checked} {os : Os} {f : FuncId} {fn : Func} {s : ChangeSpec} {conds : List PathCond} {apart fresh handsOn again : Bool} {tb : TypeId} {X : World → Array Value → Prop}
    (hX : ∀ (w w' : World) (args : Array Value), w.heap = w'.heap → X w args → X w' args)
    (own : ownKnob C.prog.godebug = none) (started : os.Started) (noInit : C.prog.inits.idxOf? f = none) (hfn : C.prog.funcs[f]? = some fn)
    (witness : ∃ (w : World) (tape : Tape) (i : Input), w.os = os ∧ (w.forCall tape i).Shaped C.prog ∧ i.vars = [] ∧ Input.okWide C.prog (w.forCall tape i) .any w.heap.size f i ∧
      ((s.pre enc C.prog fn conds apart (w.forCall tape i).memory i.args ∧ X (w.forCall tape i).memory i.args) ∧ sizedMet enc C.prog fn (OpenSpec.ofChange s) apart (w.forCall tape i).memory i.args) ∧ a.holds C.prog (lone (Frame.enter C.prog f i.args .normal) [] (w.forCall tape i)))
    (hres : fn.resultTypes = #[tb]) (hbool : C.prog.underlying tb = some .bool) (hvars : s.vars = [])
    (hspec : ∀ ds : List (DataW H), ds.length = fn.params.size → s.fn H (ds ++ []) = { results := [.lit (.bool true)], args := ds })
    (hl : laidOutB C.prog = true) (hr : (fn.params.toList.all fun t => C.prog.readableRec t && decide (t < C.prog.types.size)) = true)
    (hgl : ∀ W args, X W args → ∀ x, x ∈ gtab → PVC (S0 W) W (x.2.2.map (.int x.2.1)) ⟨x.1, 0, none⟩)
    (hlaw : ∀ (W : World) (base : Nat) (args : Array Value) (ds : List (DataW H)) (p : List MemPlace), (∀ (j : Nat) t v, fn.params[j]? = some t → args[j]? = some v → Value.okWide C.prog W .any base t v) →
      DataW.TrodAll enc C.prog W 0 (fun _ => true) true fn.params.toList args.toList ds p → ∃ avs, PC C.prog f avs (.bool true) ∧ VL (κ0 W) avs args.toList) :
    ReturnsInHanded a C os f .any (fun w args => (s.pre enc C.prog fn conds apart w args ∧ X w args) ∧ sizedMet enc C.prog fn (OpenSpec.ofChange s) apart w args) (s.post enc C.prog fn apart fresh handsOn again) := by
  refine returnsInHanded_of_change_and hX own started noInit hfn witness ?_
  intro W base args ds gs before hval hW _ _ hXW _
  have hW0 := hW
  obtain ⟨p, q, hA, hV, rfl, _, _⟩ := hW
  rw [hvars] at hV
  obtain ⟨rfl, rfl⟩ := trodVars_none hV
  obtain ⟨avs, hpc, hvl⟩ := hlaw W base args ds p hval hA
  have hc := hpc.raw.2 (κ0 W) args.toList (κ0_conc W (hgl W args hXW)) rfl hvl
  rw [Array.toArray_toList] at hc
  refine hc.mono ?_
  rintro e W' ⟨r, c, κ', rfl, ⟨rfl, _⟩, rfl, _, h2, h3⟩
  have h3 : c = .bool true := h3
  subst h3
  refine ⟨_, rfl, post_true hW0 (below_of h2) hres hbool hvars (hspec ds (by simpa using (trodAll_length hA).2)) hl fun t ht => ?_⟩
  have := List.all_eq_true.1 hr t ht
  simpa using this
theorem pvc_of_cells {S : Nat → Nat → Prop} {w : World} {g : Nat} {k : IntKind} : ∀ (l : List Int) (off : Nat), (∀ i, i < l.length → w.cell? ⟨g, off + i, none⟩ = some (.int k (l.getD i 0)) ∧ S g (off + i)) → PVC S w (l.map (.int k)) ⟨g, off, none⟩
  | [], _, _ => trivial
  | x :: l, off, h => by
    obtain ⟨h1, h2⟩ := h 0 (by simp)
    refine ⟨⟨.int k x, by simpa using h1, by simpa using h2, rfl, rfl⟩, pvc_of_cells l (off + 1) fun i hi => ?_⟩
    have := h (i + 1) (by simp; omega)
    rw [show off + (i + 1) = off + 1 + i from by omega] at this
    simpa using this
def fieldAt (P : Program) (t : TypeId) (i : Nat) : Option (Nat × TypeId) := match P.underlying t with | some (.struct fs) => fs[i]?.map fun f => (f.offset, f.type) | _ => none
def isStruct (P : Program) (t : TypeId) : Bool := match P.underlying t with | some (.struct _) => true | _ => false
section
variable {H : Type} {enc : TypeId × Value → H} {P : Program} {W : World} {base : Nat} {spare : Nat → Bool} {held : Bool}
theorem trod_field {t u : TypeId} {i off n : Nat} {cs : List Value} {x : DataW H × List MemPlace} (hf : fieldAt P t i = some (off, u)) (h : DataW.trod enc P W base spare held n t cs = some x) : ∃ n' y, DataW.trod enc P W base spare held n' u ((cs.drop off).take (P.cellsOf u)) = some y := by
  unfold fieldAt at hf
  split at hf
  · rename_i fs hs
    obtain ⟨f, hfi, he⟩ := Option.map_eq_some_iff.1 hf
    obtain ⟨ys, n', _, _, _, hyl, hg⟩ := DataW.trod_struct hs h
    simp only [Prod.mk.injEq] at he
    obtain ⟨rfl, rfl⟩ := he
    have hi := hg i f hfi
    have hil := (Array.getElem?_eq_some_iff.1 hfi).1
    rw [List.getElem?_eq_getElem (by omega)] at hi
    exact ⟨_, _, hi⟩
  · cases hf
theorem lift_cells {t : TypeId} {tys : List TypeId} {r : Reach} {b0 : Nat} {v : Value} {d : DataW H} {p : List MemPlace} (hst : isStruct P t = true) (hct : P.cellTypes P.depth t = some tys) (hcz : P.cellsOf t = tys.length) (hv : Value.okWide P W r b0 t v) (h : DataW.Trod enc P W base spare held t v d p) :
    ∃ cs : List Value, v = .agg cs.toArray ∧ cs.length = tys.length ∧ (∀ (j : Nat) (c : Value) (u : TypeId), cs[j]? = some c → tys[j]? = some u → Cell.okWide P W r b0 u c) ∧ ∃ n x, DataW.trod enc P W base spare held n t cs = some x := by
  unfold isStruct at hst
  split at hst
  · rename_i fs hs
    simp only [Value.okWide, hs] at hv
    obtain ⟨cs, rfl, hsz, ts, hts, _, hrow⟩ := hv
    rw [hct] at hts
    cases hts
    refine ⟨cs.toList, by simp, by simp [hsz, hcz], fun j c u hj hu => ?_, ?_⟩
    · have hj' : cs[j]? = some c := by simpa using hj
      have hjl : j < tys.length := by have := (Array.getElem?_eq_some_iff.1 hj').1; omega
      obtain ⟨u', hu', hok⟩ := hrow j c hj'
      rw [Nat.mod_eq_of_lt (by simpa using hjl), hu] at hu'
      cases hu'
      exact hok
    · obtain ⟨fuel, hf⟩ := h
      have hcells : (Value.cells (.agg cs)).toList = cs.toList := by simp [Value.cells]
      rw [hcells] at hf
      exact ⟨_, _, hf⟩
  · cases hst
end
end Go.Fl
