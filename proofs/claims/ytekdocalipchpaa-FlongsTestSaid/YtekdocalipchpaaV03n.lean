/- Contracts of functions of the given program, without a condition beyond those that each theorem states; they lead to the given statement. -/
import Derived.Test.YtekdocalipchpaaV03e
set_option linter.unusedSimpArgs false
set_option linter.unusedVariables false
set_option linter.unusedVariables false
set_option maxRecDepth 100000
namespace Go.Fl
open Go.RowKit
theorem HCH.anyB {P : Program} {f : FuncId} {args : List AV} {H H0 : Heap} {v0 : AV} {ty : TypeId} {cs : List AV} {sl : Bool} (i : Nat) (hi : H0[i]? = some (.box ty cs sl)) (h : HCH P f args H fun r H' => r = v0 ∧ H' = H0) : HCH P f args H fun r H' => r = v0 ∧ H' = H0.set i (.box ty (cs.map fun _ => .any) sl) := by
  refine ⟨h.1, fun κ cargs hc hH hv => (h.2 κ cargs hc hH hv).mono ?_⟩
  rintro e w' ⟨r, c, κ', e1, ⟨rfl, q⟩, e2, k1, k2, k3⟩
  have hi' : κ'.H[i]? = some (.box ty cs sl) := by rw [q]; exact hi
  have hlt := (List.getElem?_eq_some_iff.1 hi').1
  obtain ⟨b1, cur, b2, b3, b4, b5⟩ := k1.blk _ _ hi'
  obtain ⟨d1, d2⟩ := k1.mod (w' := κ'.w) i (κ'.ρ i) (.box ty cs sl) (.box ty (cs.map fun _ => .any) sl) hi' rfl rfl rfl (Nat.le_refl _) (fun _ _ _ => rfl) (fun _ _ _ => rfl)
    (fun hn => ⟨.inl rfl, k1.lt i hlt b1⟩) ⟨rfl, rfl⟩ (fun hk => by
      simp only [BlkOk, upd_same]
      refine ⟨b1, cur, b2, ?_, b4, b5⟩
      have h1 := VL.mono hk _ _ b3
      refine VL.mk (by rw [List.length_map]; exact h1.length) fun k v c hv hc => ?_
      rw [List.getElem?_map] at hv
      obtain ⟨x, _, rfl⟩ := Option.map_eq_some_iff.1 hv
      trivial)
  exact ⟨_, c, { S := κ'.S, w := κ'.w, ρ := upd κ'.ρ i (κ'.ρ i), H := κ'.H.set i (.box ty (cs.map fun _ => .any) sl) }, e1, ⟨rfl, by simp only [q]⟩, e2, d1, k2.trans d2, V.mono d2.toKeep _ _ k3⟩
theorem vcP_fnew {P : Program} {nt m : Nat} {R : Exit → St → Prop} {g : FuncId} {args args' a2 : List AV} {dst : Option Nat} {rest : List COp} {k : List Iv} {env : Env} {H H0 : Heap} {v0 : AV} (hc : HCH P g a2 [] fun r H' => r = v0 ∧ H' = H0) (hf : frzL H args a2) (hs : safeV v0 = true) (hs2 : safeH H0)
    (h : vc P nt m R (.ops rest :: k) ⟨eput env dst (shiftV H.length v0), H ++ H0.map (shiftB H.length)⟩) : vcP P nt m R g args args' dst rest k ⟨env, H⟩ :=
  vcP_raw ((HCH.freeze hc hf (fun r H' hq => ⟨by rw [hq.1]; exact hs, by rw [hq.2]; exact hs2⟩)).mono (by rintro r H' ⟨r0, H0', ⟨rfl, rfl⟩, rfl, rfl⟩; exact h))
end Go.Fl
namespace Go.Proofs.Ytekdocalipchpaa
open Go Go.Fl
open Classical
theorem h43 (s : Shop) (hv : valid s) : HCH Try.prog 43 [hS s] [] fun r H' => r = .tup [.row 2 (wl s).length, .int .i64 0] ∧ H' = [.box 26 (cS s) false, .box 24 [.row 2 (wl s).length] false, .row 3 1 ((wl s).map encN) false] := by
  have hk := check_0.2 hv
  have h6 := hv.2.2.1
  refine HCH.body Try.func43 (by kernel_rfl) rfl (by simp [Try.f43]) ?_
  simp only [Try.f43]
  refine CV.run ?_
  (repeat' (first | ((first | with_reducible refine vcG_split ?_ ?_ | with_reducible refine vcIf_split ?_ ?_ | with_reducible refine vcQ_split ?_ ?_ | with_reducible refine vcDG_split ?_ ?_) <;> intro hb <;> (try rw [hb]) <;> (try simp only [Bool.and_eq_true, Bool.or_eq_true, dtrue, dfalse, Bool.not_eq_true', Bool.not_eq_false', Bool.and_eq_false_iff, Bool.or_eq_false_iff, Bool.not_true, Bool.not_false] at hb) <;> (try simp only [within] at hb) <;> try (simp only [go_sem, hk])) | refine And.intro (by (first | exact trivial | (simp only [I64]; omega) | omega)) ?_ | (first | (refine vcP_pure (c54 _) rfl ?_ ?_ ?_; (focus (first | rfl | ((simp only [go_sem, hk, AV.pureL, AV.pure, pureL_mapI, Bool.and_self]) <;> fail))); (focus (first | ((simp only [go_sem, hk]) <;> fail) | rfl))) | (refine dCallP_pure (c54 _) rfl ?_ ?_ ?_; (focus (first | rfl | ((simp only [go_sem, hk, AV.pureL, AV.pure, pureL_mapI, Bool.and_self]) <;> fail))); (focus (first | ((simp only [go_sem, hk]) <;> fail) | rfl))) | refine vcP_safe (c54 _) rfl rfl (by (simp only [go_sem, hk])) ?_ | refine dCallP_safe (c54 _) rfl rfl ?_ | (refine vcP_pure (c80 _) rfl ?_ ?_ ?_; (focus (first | rfl | ((simp only [go_sem, hk, AV.pureL, AV.pure, pureL_mapI, Bool.and_self]) <;> fail))); (focus (first | ((simp only [go_sem, hk]) <;> fail) | rfl))) | (refine dCallP_pure (c80 _) rfl ?_ ?_ ?_; (focus (first | rfl | ((simp only [go_sem, hk, AV.pureL, AV.pure, pureL_mapI, Bool.and_self]) <;> fail))); (focus (first | ((simp only [go_sem, hk]) <;> fail) | rfl))) | refine vcP_safe (c80 _) rfl rfl (by (simp only [go_sem, hk])) ?_ | refine dCallP_safe (c80 _) rfl rfl ?_) | (simp only [go_sem, hk])))
  rw [vc_range_eq]
  refine CV.wn (st' := ⟨[(13, .fn 102 [.pp (cS s)]), (5, .lp 1 0), (2, .nilS), (3, .int .i64 0)], [.box 26 (cS s) false, .box 24 [.row 2 (selB (gd s) 0).length] false, .row 3 1 ((selB (gd s) 0).map encN) false]⟩) (.nilB 1 0 3 1 rfl rfl (by omega) (.base (by (first | exact wk_same (by (simp only [go_sem, Int.natCast_add, Int.natCast_one, Int.natCast_zero, Int.cast_ofNat_Int, selB_zero])) | exact wk_drop (by (simp only [go_sem, Int.natCast_add, Int.natCast_one, Int.natCast_zero, Int.cast_ofNat_Int, selB_zero])) (by (simp only [go_sem, Int.natCast_add, Int.natCast_one, Int.natCast_zero, Int.cast_ofNat_Int, selB_zero])) (by (simp only [go_sem, Int.natCast_add, Int.natCast_one, Int.natCast_zero, Int.cast_ofNat_Int, selB_zero])) (by (simp only [go_sem, Int.natCast_add, Int.natCast_one, Int.natCast_zero, Int.cast_ofNat_Int, selB_zero])) (by (simp only [go_sem, Int.natCast_add, Int.natCast_one, Int.natCast_zero, Int.cast_ofNat_Int, selB_zero])))))) ?_
  refine CV.rangeP rfl (by (simp only [go_sem])) [.box 26 (cS s) false, .box 24 [.row 2 (wl s).length] false, .row 3 1 ((wl s).map encN) false] rfl (by (simp only [go_sem])) (by (simp only [go_sem])) (fun l => ?_) ?_
  · have h102 := fun ps assign body env0 => c102 s hv (fun n => [.box 26 (cS s) false, .box 24 [.row 2 (selB (gd s) n).length] false, .row 3 1 ((selB (gd s) n).map encN) false]) l 21 ps assign body env0
    refine h102 _ _ _ _ (fun n w hw ha => ?_) (fun n w hw ha => ?_)
    · have hn := (List.getElem?_eq_some_iff.1 hw).1
      have hsl := selB_len (gd s) n
      have e := selB_yes (p := gd s) (n := n) (by rw [gd, gw_of hw, ha])
      refine HCY.body2 (H := [.box 26 (cS s) false, .box 24 [.row 2 (selB (gd s) n).length] false, .row 3 1 ((selB (gd s) n).map encN) false]) (H' := [.box 26 (cS s) false, .box 24 [.row 2 (selB (gd s) (n + 1)).length] false, .row 3 1 ((selB (gd s) (n + 1)).map encN) false]) (by omega) (by omega) rfl (by (simp only [go_sem])) (by (simp only [go_sem])) rfl rfl ?_
      (repeat' (first | ((first | with_reducible refine vcG_split ?_ ?_ | with_reducible refine vcIf_split ?_ ?_ | with_reducible refine vcQ_split ?_ ?_ | with_reducible refine vcDG_split ?_ ?_) <;> intro hb <;> (try rw [hb]) <;> (try simp only [Bool.and_eq_true, Bool.or_eq_true, dtrue, dfalse, Bool.not_eq_true', Bool.not_eq_false', Bool.and_eq_false_iff, Bool.or_eq_false_iff, Bool.not_true, Bool.not_false] at hb) <;> (try simp only [within] at hb) <;> try (simp only [go_sem])) | refine And.intro (by (first | exact trivial | (simp only [I64]; omega) | omega)) ?_ | fail | (simp only [go_sem])))
      exact .base (by (first | exact wk_same (by (simp only [go_sem, Int.natCast_add, Int.natCast_one, Int.natCast_zero, Int.cast_ofNat_Int, e, encN, List.map_append, List.length_append])) | exact wk_drop (by (simp only [go_sem, Int.natCast_add, Int.natCast_one, Int.natCast_zero, Int.cast_ofNat_Int, e, encN, List.map_append, List.length_append])) (by (simp only [go_sem, Int.natCast_add, Int.natCast_one, Int.natCast_zero, Int.cast_ofNat_Int, e, encN, List.map_append, List.length_append])) (by (simp only [go_sem, Int.natCast_add, Int.natCast_one, Int.natCast_zero, Int.cast_ofNat_Int, e, encN, List.map_append, List.length_append])) (by (simp only [go_sem, Int.natCast_add, Int.natCast_one, Int.natCast_zero, Int.cast_ofNat_Int, e, encN, List.map_append, List.length_append])) (by (simp only [go_sem, Int.natCast_add, Int.natCast_one, Int.natCast_zero, Int.cast_ofNat_Int, e, encN, List.map_append, List.length_append]))))
    · have e := selB_no (p := gd s) (n := n) (by rw [gd, gw_of hw]; exact ha)
      simp only [e]
  · (repeat' (first | ((first | with_reducible refine vcG_split ?_ ?_ | with_reducible refine vcIf_split ?_ ?_ | with_reducible refine vcQ_split ?_ ?_ | with_reducible refine vcDG_split ?_ ?_) <;> intro hb <;> (try rw [hb]) <;> (try simp only [Bool.and_eq_true, Bool.or_eq_true, dtrue, dfalse, Bool.not_eq_true', Bool.not_eq_false', Bool.and_eq_false_iff, Bool.or_eq_false_iff, Bool.not_true, Bool.not_false] at hb) <;> (try simp only [within] at hb) <;> try (simp only [go_sem])) | refine And.intro (by (first | exact trivial | (simp only [I64]; omega) | omega)) ?_ | fail | (simp only [go_sem])))
theorem h19 (s : Shop) (hk : kno s) : HCH Try.prog 19 [hS s] [] fun r H' => r = .tup [.row 1 s.ms.length, .bool true] ∧ H' = [.box 26 (cS s) false, .row 37 2 ((lfT s s.ms.length).map encP) false] := by
  have h5 := hk.1.2.1
  refine HCH.body Try.func19 (by kernel_rfl) rfl (by simp [Try.f19]) ?_
  simp only [Try.f19]
  refine CV.run ?_
  (repeat' (first | ((first | with_reducible refine vcG_split ?_ ?_ | with_reducible refine vcIf_split ?_ ?_ | with_reducible refine vcQ_split ?_ ?_ | with_reducible refine vcDG_split ?_ ?_) <;> intro hb <;> (try rw [hb]) <;> (try simp only [Bool.and_eq_true, Bool.or_eq_true, dtrue, dfalse, Bool.not_eq_true', Bool.not_eq_false', Bool.and_eq_false_iff, Bool.or_eq_false_iff, Bool.not_true, Bool.not_false] at hb) <;> (try simp only [within] at hb) <;> try (simp only [go_sem])) | refine And.intro (by (first | exact trivial | (simp only [I64]; omega) | omega)) ?_ | fail | (simp only [go_sem])))
  refine vc_fw (fun j => ⟨[(5, .int .i64 j), (4, .row 1 j), (3, .bool false), (2, .nilS), (1, .lp 0 0)], [.box 26 (cS s) false, .row 37 2 ((lfT s j).map encP) false]⟩) s.ms.length (fun j => True) (.nilE 4 37 2 (by (simp only [go_sem])) (by omega) (.base (by (first | exact wk_same (by (simp only [go_sem, Int.natCast_add, Int.natCast_one, Int.natCast_zero, Int.cast_ofNat_Int, lfT_zero])) | exact wk_drop (by (simp only [go_sem, Int.natCast_add, Int.natCast_one, Int.natCast_zero, Int.cast_ofNat_Int, lfT_zero])) (by (simp only [go_sem, Int.natCast_add, Int.natCast_one, Int.natCast_zero, Int.cast_ofNat_Int, lfT_zero])) (by (simp only [go_sem, Int.natCast_add, Int.natCast_one, Int.natCast_zero, Int.cast_ofNat_Int, lfT_zero])) (by (simp only [go_sem, Int.natCast_add, Int.natCast_one, Int.natCast_zero, Int.cast_ofNat_Int, lfT_zero])) (by (simp only [go_sem, Int.natCast_add, Int.natCast_one, Int.natCast_zero, Int.cast_ofNat_Int, lfT_zero])))))) trivial ?_
  intro j hj _
  rcases Nat.lt_or_ge j s.ms.length with hlt | hge
  · have hlt' : (j : Int) < s.ms.length := by omega
    have hb := lo_bounds hk.1 (W := aW s) (fun w hw => aW_mem hw) j hlt
    have h33 := c33 s j
    rw [show rLeft s j = _ from ans_yes (kno_kn hk ⟨by omega, by omega⟩)] at h33
    have h21 := c21 (lo s j) (hi s j) 0 12
    have hlh := lo_le_hi hk.2 (j : Int)
    have hb1 : 0 ≤ lo s j := hb.1
    have hb2 : hi s j ≤ 12 := hb.2.2.2
    rw [decide_eq_true (by omega)] at h21
    have e := lfT_succ (s := s) (j := j)
    have hl := lfT_len (s := s) (j := j)
    (repeat' (first | ((first | with_reducible refine vcG_split ?_ ?_ | with_reducible refine vcIf_split ?_ ?_ | with_reducible refine vcQ_split ?_ ?_ | with_reducible refine vcDG_split ?_ ?_) <;> intro hb <;> (try rw [hb]) <;> (try simp only [Bool.and_eq_true, Bool.or_eq_true, dtrue, dfalse, Bool.not_eq_true', Bool.not_eq_false', Bool.and_eq_false_iff, Bool.or_eq_false_iff, Bool.not_true, Bool.not_false] at hb) <;> (try simp only [within] at hb) <;> try (simp only [go_sem, hlt', hl])) | refine And.intro (by (first | exact trivial | (simp only [I64]; omega) | omega)) ?_ | (first | (refine vcP_pure (h33) rfl ?_ ?_ ?_; (focus (first | rfl | ((simp only [go_sem, hlt', hl, AV.pureL, AV.pure, pureL_mapI, Bool.and_self]) <;> fail))); (focus (first | ((simp only [go_sem, hlt', hl]) <;> fail) | rfl))) | (refine dCallP_pure (h33) rfl ?_ ?_ ?_; (focus (first | rfl | ((simp only [go_sem, hlt', hl, AV.pureL, AV.pure, pureL_mapI, Bool.and_self]) <;> fail))); (focus (first | ((simp only [go_sem, hlt', hl]) <;> fail) | rfl))) | refine vcP_safe (h33) rfl rfl (by (simp only [go_sem, hlt', hl])) ?_ | refine dCallP_safe (h33) rfl rfl ?_ | (refine vcP_pure (h21) rfl ?_ ?_ ?_; (focus (first | rfl | ((simp only [go_sem, hlt', hl, AV.pureL, AV.pure, pureL_mapI, Bool.and_self]) <;> fail))); (focus (first | ((simp only [go_sem, hlt', hl]) <;> fail) | rfl))) | (refine dCallP_pure (h21) rfl ?_ ?_ ?_; (focus (first | rfl | ((simp only [go_sem, hlt', hl, AV.pureL, AV.pure, pureL_mapI, Bool.and_self]) <;> fail))); (focus (first | ((simp only [go_sem, hlt', hl]) <;> fail) | rfl))) | refine vcP_safe (h21) rfl rfl (by (simp only [go_sem, hlt', hl])) ?_ | refine dCallP_safe (h21) rfl rfl ?_) | (simp only [go_sem, hlt', hl])))
    exact .base (by (first | exact wk_same (by (simp only [go_sem, Int.natCast_add, Int.natCast_one, Int.natCast_zero, Int.cast_ofNat_Int, e, encP, List.map_append, List.length_append])) | exact wk_drop (by (simp only [go_sem, Int.natCast_add, Int.natCast_one, Int.natCast_zero, Int.cast_ofNat_Int, e, encP, List.map_append, List.length_append])) (by (simp only [go_sem, Int.natCast_add, Int.natCast_one, Int.natCast_zero, Int.cast_ofNat_Int, e, encP, List.map_append, List.length_append])) (by (simp only [go_sem, Int.natCast_add, Int.natCast_one, Int.natCast_zero, Int.cast_ofNat_Int, e, encP, List.map_append, List.length_append])) (by (simp only [go_sem, Int.natCast_add, Int.natCast_one, Int.natCast_zero, Int.cast_ofNat_Int, e, encP, List.map_append, List.length_append])) (by (simp only [go_sem, Int.natCast_add, Int.natCast_one, Int.natCast_zero, Int.cast_ofNat_Int, e, encP, List.map_append, List.length_append]))))
  · have hge' : ¬ (j : Int) < s.ms.length := by omega
    have : j = s.ms.length := by omega
    subst this
    (repeat' (first | ((first | with_reducible refine vcG_split ?_ ?_ | with_reducible refine vcIf_split ?_ ?_ | with_reducible refine vcQ_split ?_ ?_ | with_reducible refine vcDG_split ?_ ?_) <;> intro hb <;> (try rw [hb]) <;> (try simp only [Bool.and_eq_true, Bool.or_eq_true, dtrue, dfalse, Bool.not_eq_true', Bool.not_eq_false', Bool.and_eq_false_iff, Bool.or_eq_false_iff, Bool.not_true, Bool.not_false] at hb) <;> (try simp only [within] at hb) <;> try (simp only [go_sem, hge', lfT_len])) | refine And.intro (by (first | exact trivial | (simp only [I64]; omega) | omega)) ?_ | fail | (simp only [go_sem, hge', lfT_len])))
theorem k43 (s : Shop) (hv : valid s) : HCH Try.prog 43 [hS s] [] fun r H' => r = .tup [.row 2 (wl s).length, .int .i64 0] ∧ H' = [.box 26 [.any, .any, .any, .any] false, .box 24 [.row 2 (wl s).length] false, .row 3 1 ((wl s).map encN) false] := HCH.anyB (ty := 26) (cs := cS s) (sl := false) 0 rfl (h43 s hv)
theorem k19 (s : Shop) (hk : kno s) : HCH Try.prog 19 [hS s] [] fun r H' => r = .tup [.row 1 s.ms.length, .bool true] ∧ H' = [.box 26 [.any, .any, .any, .any] false, .row 37 2 ((lfT s s.ms.length).map encP) false] := HCH.anyB (ty := 26) (cs := cS s) (sl := false) 0 rfl (h19 s hk)
/-! ### A mould cast once more -/
def upd1 (m : Mould) (br : Int) : Mould := if br = 1 then ⟨m.page, m.used, 1⟩ else ⟨m.page, m.used + 1, m.broke⟩
def castM (s : Shop) (i : Nat) (br : Int) : List Mould := match s.ms[i]? with | some m => s.ms.set i (upd1 m br) | none => s.ms
abbrev castS (s : Shop) (i : Nat) (br : Int) : Shop := ⟨castM s i br, s.ws, s.wt, s.fr⟩
theorem castM_len {s : Shop} {i : Nat} {br : Int} : (castM s i br).length = s.ms.length := by
  unfold castM; split <;> simp
theorem castM_map {s : Shop} {i : Nat} {br : Int} {m : Mould} (hm : s.ms[i]? = some m) : (s.ms.map encD).set i (encD (upd1 m br)) = (castM s i br).map encD := by
  unfold castM; rw [hm]; simp [List.map_set]
abbrev ctC (s : Shop) : List AV := [.row 4 s.ms.length, .row 7 s.ws.length, .row 5 s.wt.length, .int .i64 s.fr]
abbrev ctH (s : Shop) (i : Nat) (br : Int) (m : Mould) : Heap := [.box 26 (cS s) false, .box 26 (ctC s) false, .box 26 (cS s) false, .box 26 (ctC s) false, .row 51 3 ((castM s i br).map encD) false, .row 3 1 (s.wt.map encN) false, .box 26 (ctC s) false, .row 24 1 (s.ws.map encW) false, .box 26 (ctC s) false, .box 51 [.int .i64 (upd1 m br).page, .int .i64 (upd1 m br).used, .int .i64 (upd1 m br).broke] false]
theorem h42 (s : Shop) (h : ¬ huge s) (i : Nat) (m : Mould) (hm : s.ms[i]? = some m) (hu : 0 ≤ m.used ∧ m.used ≤ 12) (br : Int) : HCH Try.prog 42 [hS s, .int .i64 i, .int .i64 br] [] fun r H' => r = .agg (ctC s) ∧ H' = ctH s i br m := by
  have hi := (List.getElem?_eq_some_iff.1 hm).1
  have hi' : (i : Int) < s.ms.length := by omega
  have e := castM_map (br := br) hm
  refine HCH.body Try.func42 (by kernel_rfl) rfl (by simp [Try.f42]) ?_
  simp only [Try.f42]
  refine CV.run ?_
  (repeat' (first | ((first | with_reducible refine vcG_split ?_ ?_ | with_reducible refine vcIf_split ?_ ?_ | with_reducible refine vcQ_split ?_ ?_ | with_reducible refine vcDG_split ?_ ?_) <;> intro hb <;> (try rw [hb]) <;> (try simp only [Bool.and_eq_true, Bool.or_eq_true, dtrue, dfalse, Bool.not_eq_true', Bool.not_eq_false', Bool.and_eq_false_iff, Bool.or_eq_false_iff, Bool.not_true, Bool.not_false] at hb) <;> (try simp only [within] at hb) <;> try (simp only [go_sem])) | refine And.intro (by (first | exact trivial | (simp only [I64]; omega) | omega)) ?_ | fail | (simp only [go_sem])))
  refine vcP_new (h18 s h) rfl ?_
  (repeat' (first | ((first | with_reducible refine vcG_split ?_ ?_ | with_reducible refine vcIf_split ?_ ?_ | with_reducible refine vcQ_split ?_ ?_ | with_reducible refine vcDG_split ?_ ?_) <;> intro hb <;> (try rw [hb]) <;> (try simp only [Bool.and_eq_true, Bool.or_eq_true, dtrue, dfalse, Bool.not_eq_true', Bool.not_eq_false', Bool.and_eq_false_iff, Bool.or_eq_false_iff, Bool.not_true, Bool.not_false] at hb) <;> (try simp only [within] at hb) <;> try (simp only [go_sem, List.map_cons, List.map_nil, List.cons_append, List.nil_append, hi', hm, encD])) | refine And.intro (by (first | exact trivial | (simp only [I64]; omega) | omega)) ?_ | fail | (simp only [go_sem, List.map_cons, List.map_nil, List.cons_append, List.nil_append, hi', hm, encD])))
  · unfold ctH
    rw [← e]
    simp only [upd1, hb, if_true, encD]
  · unfold ctH
    rw [← e]
    simp only [upd1, hb, if_false, encD]
theorem c42 (s : Shop) (h : ¬ huge s) (i : Nat) (m : Mould) (hm : s.ms[i]? = some m) (hu : 0 ≤ m.used ∧ m.used ≤ 12) (br : Int) : PC Try.prog 42 [hS s, .int .i64 i, .int .i64 br] (hS (castS s i br)) := by
  have hi := (List.getElem?_eq_some_iff.1 hm).1
  have hi' : (i : Int) < s.ms.length := by omega
  have e := castM_map (br := br) hm
  have hl := castM_len (s := s) (i := i) (br := br)
  refine PC.body Try.func42 (by kernel_rfl) rfl (by simp [Try.f42]) rfl ?_
  simp only [Try.f42]
  intro hlen
  simp only [go_sem, List.length_map, and_true, true_and] at hlen
  refine CV.run ?_
  (repeat' (first | ((first | with_reducible refine vcG_split ?_ ?_ | with_reducible refine vcIf_split ?_ ?_ | with_reducible refine vcQ_split ?_ ?_ | with_reducible refine vcDG_split ?_ ?_) <;> intro hb <;> (try rw [hb]) <;> (try simp only [Bool.and_eq_true, Bool.or_eq_true, dtrue, dfalse, Bool.not_eq_true', Bool.not_eq_false', Bool.and_eq_false_iff, Bool.or_eq_false_iff, Bool.not_true, Bool.not_false] at hb) <;> (try simp only [within] at hb) <;> try (simp only [go_sem])) | refine And.intro (by (first | exact trivial | (simp only [I64]; omega) | omega)) ?_ | fail | (simp only [go_sem])))
  refine vcP_new (h18 s h) rfl ?_
  (repeat' (first | ((first | with_reducible refine vcG_split ?_ ?_ | with_reducible refine vcIf_split ?_ ?_ | with_reducible refine vcQ_split ?_ ?_ | with_reducible refine vcDG_split ?_ ?_) <;> intro hb <;> (try rw [hb]) <;> (try simp only [Bool.and_eq_true, Bool.or_eq_true, dtrue, dfalse, Bool.not_eq_true', Bool.not_eq_false', Bool.and_eq_false_iff, Bool.or_eq_false_iff, Bool.not_true, Bool.not_false] at hb) <;> (try simp only [within] at hb) <;> try (simp only [go_sem, List.map_cons, List.map_nil, List.cons_append, List.nil_append, hi', hm, encD])) | refine And.intro (by (first | exact trivial | (simp only [I64]; omega) | omega)) ?_ | fail | (simp only [go_sem, List.map_cons, List.map_nil, List.cons_append, List.nil_append, hi', hm, encD])))
  · have e1 : (s.ms.map encD).set i [.int .i64 m.page, .int .i64 m.used, .int .i64 1] = (castM s i br).map encD := by
      rw [← e]; simp only [upd1, hb, if_true, encD]
    rw [e1]
    exact ⟨by simp [hl], frzE_self _ _ (by rw [pureD]; trivial)⟩
  · have e1 : (s.ms.map encD).set i [.int .i64 m.page, .int .i64 (m.used + 1), .int .i64 m.broke] = (castM s i br).map encD := by
      rw [← e]; simp only [upd1, hb, if_false, encD]
    rw [e1]
    exact ⟨by simp [hl], frzE_self _ _ (by rw [pureD]; trivial)⟩
end Go.Proofs.Ytekdocalipchpaa
