/- Contracts of functions of the given program, without a condition beyond those that each theorem states; they lead to the given statement. -/
import Derived.Test.YtllmohmgakdbdaaW07y
import Derived.SizedLaws
set_option linter.unusedSimpArgs false
set_option linter.unusedVariables false
set_option linter.unusedVariables false
set_option maxRecDepth 100000
namespace Go.Fl
open Go.RowKit Go.ChangeShapes Go.WideShapes Go.Deep
section
variable {H : Type} {P : Program} {enc : TypeId × Value → H} {W : World} {base : Nat} {spare : Nat → Bool} {held : Bool}
theorem lift_struct_d {t : TypeId} {tys : List TypeId} {r : Reach} {b0 : Nat} {v : Value} {d : DataW H} {p : List MemPlace} (hst : structOk P t tys = true) (hv : Value.okWide P W r b0 t v) (h : DataW.Trod enc P W base spare held t v d p) :
    ∃ (cs : List Value) (parts : List (DataW H)), v = .agg cs.toArray ∧ cs.length = tys.length ∧ d.weights P t = DataW.weightsEach P tys parts ∧ parts.length = tys.length ∧ ∀ (j : Nat) (c : Value) (u : TypeId), cs[j]? = some c → tys[j]? = some u → Cell.okWide P W r b0 u c ∧ ∃ n y, DataW.trod enc P W base spare held n u [c] = some y ∧ parts[j]? = some y.1 := by
  unfold structOk at hst
  simp only [Bool.and_eq_true, beq_iff_eq] at hst
  obtain ⟨hst, hcz⟩ := hst
  unfold structTys at hst
  split at hst
  · rename_i fs hs
    split at hst
    · rename_i hc
      simp only [Bool.and_eq_true, beq_iff_eq] at hc
      obtain ⟨hone, hct⟩ := hc
      cases hst
      simp only [Value.okWide, hs] at hv
      obtain ⟨cs, rfl, hsz, ts, hts, _, hrow⟩ := hv
      rw [hct] at hts
      cases hts
      have hsz2 : cs.size = fs.size := by rw [hsz, hcz]; simp
      obtain ⟨fuel, hf⟩ := h
      obtain ⟨ys, n', _, hx, _, hyl, hg⟩ := DataW.trod_struct hs hf
      have hd : d = .agg (ys.map (·.1)) := congrArg Prod.fst hx
      refine ⟨cs.toList, ys.map (·.1), by simp, by simp [hsz2], ?_, by simp [hyl], fun j c u hj hu => ?_⟩
      · rw [hd]
        simp only [DataW.weights, hs]
      have hj' : cs[j]? = some c := by simpa using hj
      have hjl : j < fs.size := by have := (Array.getElem?_eq_some_iff.1 hj').1; omega
      obtain ⟨u', hu', hok⟩ := hrow j c hj'
      rw [Nat.mod_eq_of_lt (by simpa using hjl), hu] at hu'
      cases hu'
      refine ⟨hok, ?_⟩
      have hfj : fs[j]? = some fs[j] := Array.getElem?_eq_getElem hjl
      obtain ⟨ho, hk⟩ := hone_of hone j _ hfj
      have hty : u = fs[j].type := by
        rw [List.getElem?_map] at hu
        simp [hjl] at hu
        exact hu.symm
      have ht := hg j _ hfj
      rw [ho, hk] at ht
      have hcells : (Value.cells (.agg cs)).toList = cs.toList := by simp [Value.cells]
      rw [hcells] at ht
      have hjl2 : j < cs.toList.length := by simp; omega
      have h1 : (cs.toList.drop j).take 1 = [c] := by
        rw [List.drop_eq_getElem_cons hjl2]
        have : cs.toList[j] = c := by
          have := List.getElem?_eq_getElem hjl2
          rw [this] at hj
          exact Option.some.inj hj
        rw [this]; rfl
      rw [h1, List.getElem?_eq_getElem (by omega)] at ht
      exact ⟨n', _, by rw [hty]; exact ht, by rw [List.getElem?_map, List.getElem?_eq_getElem (by omega)]; rfl⟩
    · cases hst
  · cases hst
theorem slice_weighs {t e : TypeId} {n : Nat} {a : Option Addr} {len cap : Nat} {y : DataW H × List MemPlace} (hs : P.underlying t = some (.slice e)) (h : DataW.trod enc P W base spare held n t [.slice a len cap] = some y) : len = 0 ∨ ∃ m, len * P.bytesOf e ≤ m ∧ m ∈ y.1.weights P t := by
  rcases open_slice hs h with ⟨hcs, _⟩ | ⟨a', len', cap', m, n, D, Pl, hcs, hb, hl, hm, hmm, hx, hi⟩
  · simp only [List.cons.injEq, Value.slice.injEq, and_true] at hcs
    exact .inl hcs.2.1
  · simp only [List.cons.injEq, Value.slice.injEq, and_true] at hcs
    obtain ⟨rfl, rfl, rfl⟩ := hcs
    right
    rw [hx]
    simp only [DataW.weights, hs, List.length_map, List.length_range]
    exact ⟨_, Nat.mul_le_mul_right _ (by omega), List.mem_cons_self⟩
theorem law_lifted_sized {a : Assume} {C : Checked} {os : Os} {f : FuncId} {fn : Func} {s : ChangeSpec} {conds : List PathCond} {apart fresh handsOn again : Bool} {tb : TypeId}
    (own : ownKnob C.prog.godebug = none) (started : os.Started) (noInit : C.prog.inits.idxOf? f = none) (hfn : C.prog.funcs[f]? = some fn)
    (witness : ∃ (w : World) (tape : Tape) (i : Input), w.os = os ∧ (w.forCall tape i).Shaped C.prog ∧ i.vars = [] ∧ Input.okWide C.prog (w.forCall tape i) .any w.heap.size f i ∧
      s.pre6 enc C.prog fn conds apart (w.forCall tape i).memory i.args ∧ a.holds C.prog (lone (Frame.enter C.prog f i.args .normal) [] (w.forCall tape i)))
    (hres : fn.resultTypes = #[tb]) (hbool : C.prog.underlying tb = some .bool) (hvars : s.vars = [])
    (hspec : ∀ ds : List (DataW H), ds.length = fn.params.size → s.fn H (ds ++ []) = { results := [.lit (.bool true)], args := ds })
    (hl : laidOutB C.prog = true) (hr : (fn.params.toList.all fun t => C.prog.readableRec t && decide (t < C.prog.types.size)) = true)
    (hlaw : ∀ (W : World) (base : Nat) (args : Array Value) (ds : List (DataW H)) (p : List MemPlace), (∀ (j : Nat) t v, fn.params[j]? = some t → args[j]? = some v → Value.okWide C.prog W .any base t v) →
      (DataW.weightsEach C.prog fn.params.toList ds).all (· ≤ reachBytes) = true →
      DataW.TrodAll enc C.prog W 0 (fun _ => true) true fn.params.toList args.toList ds p → ∃ avs, PC C.prog f avs (.bool true) ∧ VL (κ0 W) avs args.toList) :
    ReturnsInHanded a C os f .any (s.pre6 enc C.prog fn conds apart) (s.post enc C.prog fn apart fresh handsOn again) := by
  refine returnsInHanded_of_change_sized own started noInit hfn witness ?_
  intro W base args ds gs before hval hW _ hsz _
  have hW0 := hW
  obtain ⟨p, q, hA, hV, rfl, _, _⟩ := hW
  rw [hvars] at hV
  obtain ⟨rfl, rfl⟩ := trodVars_none hV
  have hv0 : s.plain.varTypes C.prog = [] := by
    simp [ChangeSpec.plain, DataSpec.varTypes, hvars]
  rw [hv0, List.append_nil, List.append_nil] at hsz
  obtain ⟨avs, hpc, hvl⟩ := hlaw W base args ds p hval hsz hA
  have hc := hpc.raw.2 (κ0 W) args.toList (κ0_conc W) rfl hvl
  rw [Array.toArray_toList] at hc
  refine hc.mono ?_
  rintro e W' ⟨r, c, κ', rfl, ⟨rfl, _⟩, rfl, _, h2, h3⟩
  have h3 : c = .bool true := h3
  subst h3
  refine ⟨_, rfl, post_true hW0 (below_of h2) hres hbool hvars (hspec ds (by simpa using (trodAll_length hA).2)) hl fun t ht => ?_⟩
  have := List.all_eq_true.1 hr t ht
  simpa using this
end
end Go.Fl
namespace Go.Proofs.Ytllmohmgakdbdaa
open Go Go.Fl Go.ChangeShapes Go.WideShapes Go.RowKit Go.Deep
open Classical
theorem L.u22 : Try.prog.underlying 22 = some (.slice 46) := by kernel_rfl
theorem L.u23 : Try.prog.underlying 23 = some (.slice 57) := by kernel_rfl
theorem L.b46 : Try.prog.bytesOf 46 = 32 := by kernel_rfl
theorem L.b57 : Try.prog.bytesOf 57 = 24 := by kernel_rfl
section
variable {H : Type} {enc : TypeId × Value → H} {W : World} {base : Nat} {spare : Nat → Bool} {held : Bool} {r : Reach} {b0 : Nat} {v : Value} {d : DataW H} {p : List MemPlace}
theorem lift_house_sized (hv : Value.okWide Try.prog W r b0 25 v) (h : DataW.Trod enc Try.prog W base spare held 25 v d p) (hz : ∀ n, n ∈ d.weights Try.prog 25 → n ≤ reachBytes) : ∃ ts ms, V (κ0 W) (hT ts ms) v ∧ ts.length * 32 ≤ reachBytes ∧ ms.length * 24 ≤ reachBytes := by
  obtain ⟨cs, parts, rfl, hl, hw, hpl, hc⟩ := lift_struct_d L.h25 hv h
  match cs, hl with
  | [c0, c1], _ =>
    obtain ⟨k0, n0, y0, t0, p0⟩ := hc 0 c0 22 rfl rfl
    obtain ⟨k1, n1, y1, t1, p1⟩ := hc 1 c1 23 rfl rfl
    obtain ⟨a0, l0, m0, rfl, sp0⟩ := cell_slice L.s22 k0
    obtain ⟨a1, l1, m1, rfl, sp1⟩ := cell_slice L.s23 k1
    obtain ⟨e0, g0, q0⟩ := lift_slice sp0 L.s22 t0
    obtain ⟨e1, g1, q1⟩ := lift_slice sp1 L.s23 t1
    obtain ⟨ts, hts⟩ := things_of e0 g0
    obtain ⟨ms, hms⟩ := marks_of e1 g1
    rw [hts] at q0
    rw [hms] at q1
    have w0 := slice_weighs L.u22 t0
    have w1 := slice_weighs L.u23 t1
    rw [L.b46] at w0
    rw [L.b57] at w1
    have z0 : l0 * 32 ≤ reachBytes := by
      rcases w0 with w | ⟨m, w, hm⟩
      · rw [w]; simp
      · exact Nat.le_trans w (hz m (by rw [hw]; exact DataW.weights_mem_each (j := 0) rfl p0 m hm))
    have z1 : l1 * 24 ≤ reachBytes := by
      rcases w1 with w | ⟨m, w, hm⟩
      · rw [w]; simp
      · exact Nat.le_trans w (hz m (by rw [hw]; exact DataW.weights_mem_each (j := 1) rfl p1 m hm))
    have s0 : ts.length = l0 := by
      obtain ⟨A, cap, e, _⟩ := q0
      cases e; simp
    have s1 : ms.length = l1 := by
      obtain ⟨A, cap, e, _⟩ := q1
      cases e; simp
    exact ⟨ts, ms, ⟨_, rfl, _, _, rfl, q0, _, _, rfl, q1, rfl⟩, by rw [s0]; exact z0, by rw [s1]; exact z1⟩
end
end Go.Proofs.Ytllmohmgakdbdaa
