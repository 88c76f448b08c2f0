/- Contracts of functions of the given program, without a condition beyond those that each theorem states; they lead to the given statement. -/
import Derived.Test.YtllmohmgakdbdaaW07u
set_option linter.unusedSimpArgs false
set_option linter.unusedVariables false
set_option maxRecDepth 100000
namespace Go.Proofs.Ytllmohmgakdbdaa
open Go Go.Fl
open Classical
def cpV (ts : List Thing) (ms : List Mark) : AV := .agg [.row 2 ts.length, .row 3 ms.length]
def cpH (ts : List Thing) (ms : List Mark) : Heap := [.box 25 [.lst false 4 (ts.map encT), .lst false 3 (ms.map encM)] false, .box 25 [.row 2 ts.length, .row 3 ms.length] false, .row 46 4 (ts.map encT) false, .row 57 3 (ms.map encM) false]
theorem h35 (ts : List Thing) (ms : List Mark) (ht : ts.length ≤ 1000) (hm : ms.length ≤ 1000) : HCH Try.prog 35 [hT ts ms] [] fun r H' => r = cpV ts ms ∧ H' = cpH ts ms := by
  refine HCH.body Try.func35 (by kernel_rfl) rfl (by simp [Try.f35]) ?_
  simp only [Try.f35]
  refine CV.run ?_
  (repeat' (first | ((first | with_reducible refine vcG_split ?_ ?_ | with_reducible refine vcIf_split ?_ ?_ | with_reducible refine vcQ_split ?_ ?_ | with_reducible refine vcDG_split ?_ ?_) <;> intro hb <;> (try rw [hb]) <;> (try simp only [Bool.and_eq_true, Bool.or_eq_true, dtrue, dfalse, Bool.not_eq_true', Bool.not_eq_false', Bool.and_eq_false_iff, Bool.or_eq_false_iff, Bool.not_true, Bool.not_false] at hb) <;> (try simp only [within] at hb) <;> try (simp only [go_sem, cpV, cpH, List.nil_append])) | refine And.intro (by (first | exact trivial | (simp only [I64]; omega) | omega)) ?_ | (with_reducible rw [vc_draw_eq]; first | refine CV.draw (id := 1) [(0, 0), (0, 0), (0, 0), (0, 0), (0, 1), (0, 1), (0, 1), (0, 0), (2, 2), (0, 0)] mixed rfl (by kernel_rfl) ?_) | fail | (simp only [go_sem, cpV, cpH, List.nil_append])))
  all_goals first
    | exact ⟨⟨by omega, by omega, .inl trivial⟩, ⟨by omega, by omega, .inl trivial⟩⟩
    | trace_state
theorem shift_mapT {n : Nat} {l : List Thing} : List.map (shiftL n) (List.map encT l) = List.map encT l := by
  rw [List.map_map]; exact List.map_congr_left fun a _ => by simp [encT, shiftL, shiftV]
theorem shift_mapM {n : Nat} {l : List Mark} : List.map (shiftL n) (List.map encM l) = List.map encM l := by
  rw [List.map_map]; exact List.map_congr_left fun a _ => by simp [encM, shiftL, shiftV]
theorem vcP_new {P : Program} {nt m : Nat} {R : Exit → St → Prop} {g : FuncId} {args args' : List AV} {dst : Option Nat} {rest : List COp} {k : List Iv} {env : Env} {H H0 : Heap} {v0 : AV} (hc : HCH P g args [] fun r H' => r = v0 ∧ H' = H0) (ha : AV.pureL args = true)
    (h : vc P nt m R (.ops rest :: k) ⟨eput env dst (shiftV H.length v0), H ++ H0.map (shiftB H.length)⟩) : vcP P nt m R g args args' dst rest k ⟨env, H⟩ :=
  vcP_raw ((hc.pure ha H).mono (by rintro r H' ⟨r0, H0', ⟨rfl, rfl⟩, rfl, rfl⟩; exact h))
attribute [go_sem] shift_mapT shift_mapM shiftV shiftL shiftB
theorem c35 (ts : List Thing) (ms : List Mark) (ht : ts.length ≤ 1000) (hm : ms.length ≤ 1000) : PC Try.prog 35 [hT ts ms] (hT ts ms) := by
  refine PC.body Try.func35 (by kernel_rfl) rfl (by simp [Try.f35]) rfl ?_
  simp only [Try.f35]
  intro hlen
  simp only [go_sem, List.length_map, and_true, true_and] at hlen
  refine CV.run ?_
  (repeat' (first | ((first | with_reducible refine vcG_split ?_ ?_ | with_reducible refine vcIf_split ?_ ?_ | with_reducible refine vcQ_split ?_ ?_ | with_reducible refine vcDG_split ?_ ?_) <;> intro hb <;> (try rw [hb]) <;> (try simp only [Bool.and_eq_true, Bool.or_eq_true, dtrue, dfalse, Bool.not_eq_true', Bool.not_eq_false', Bool.and_eq_false_iff, Bool.or_eq_false_iff, Bool.not_true, Bool.not_false] at hb) <;> (try simp only [within] at hb) <;> try (simp only [go_sem, List.nil_append])) | refine And.intro (by (first | exact trivial | (simp only [I64]; omega) | omega)) ?_ | (with_reducible rw [vc_draw_eq]; first | refine CV.draw (id := 1) [(0, 0), (0, 0), (0, 0), (0, 0), (0, 1), (0, 1), (0, 1), (0, 0), (2, 2), (0, 0)] mixed rfl (by kernel_rfl) ?_) | fail | (simp only [go_sem, List.nil_append])))
  all_goals first
    | exact ⟨⟨by omega, by omega, .inl trivial⟩, ⟨by omega, by omega, .inl trivial⟩⟩
    | trace_state
def pricedT (ts : List Thing) (i : Int) (c : Int) : List Thing := match ts[i.toNat]? with | some t => ts.set i.toNat ⟨t.of, t.at_, c, t.prints⟩ | none => ts
theorem c27 (ts : List Thing) (ms : List Mark) (ht : ts.length ≤ 1000) (hm : ms.length ≤ 1000) (i c : Int) (hi : 0 ≤ i ∧ i < ts.length) : PC Try.prog 27 [hT ts ms, .int .i64 i, .int .i64 c] (hT (pricedT ts i c) ms) := by
  obtain ⟨t, hti⟩ := get_of (l := ts) (j := i.toNat) (by omega)
  have e : pricedT ts i c = ts.set i.toNat ⟨t.of, t.at_, c, t.prints⟩ := by simp [pricedT, hti]
  rw [e]
  refine PC.body Try.func27 (by kernel_rfl) rfl (by simp [Try.f27]) rfl ?_
  simp only [Try.f27]
  intro hlen
  simp only [go_sem, List.length_map, and_true, true_and] at hlen
  refine CV.run ?_
  (repeat' (first | ((first | with_reducible refine vcG_split ?_ ?_ | with_reducible refine vcIf_split ?_ ?_ | with_reducible refine vcQ_split ?_ ?_ | with_reducible refine vcDG_split ?_ ?_) <;> intro hb <;> (try rw [hb]) <;> (try simp only [Bool.and_eq_true, Bool.or_eq_true, dtrue, dfalse, Bool.not_eq_true', Bool.not_eq_false', Bool.and_eq_false_iff, Bool.or_eq_false_iff, Bool.not_true, Bool.not_false] at hb) <;> (try simp only [within] at hb) <;> try (simp only [go_sem])) | refine And.intro (by (first | exact trivial | (simp only [I64]; omega) | omega)) ?_ | fail | (simp only [go_sem])))
  refine vcP_new (h35 ts ms ht hm) rfl ?_
  (repeat' (first | ((first | with_reducible refine vcG_split ?_ ?_ | with_reducible refine vcIf_split ?_ ?_ | with_reducible refine vcQ_split ?_ ?_ | with_reducible refine vcDG_split ?_ ?_) <;> intro hb <;> (try rw [hb]) <;> (try simp only [Bool.and_eq_true, Bool.or_eq_true, dtrue, dfalse, Bool.not_eq_true', Bool.not_eq_false', Bool.and_eq_false_iff, Bool.or_eq_false_iff, Bool.not_true, Bool.not_false] at hb) <;> (try simp only [within] at hb) <;> try (simp only [go_sem, cpV, cpH, List.map_nil, List.map_cons, List.cons_append, List.nil_append, hti, encT, hi, List.map_set, List.length_set])) | refine And.intro (by (first | exact trivial | (simp only [I64]; omega) | omega)) ?_ | fail | (simp only [go_sem, cpV, cpH, List.map_nil, List.map_cons, List.cons_append, List.nil_append, hti, encT, hi, List.map_set, List.length_set])))
  exact frzE_self _ _ (fun e he => by
    rcases List.mem_or_eq_of_mem_set he with h | h
    · exact (show pureE (ts.map encT) from (pureT ts).symm ▸ trivial) e h
    · subst h; rfl)
def exT : List Thing := [⟨-1, 0, 20, 0⟩, ⟨0, 5, 9, 0⟩, ⟨1, 10, 3, 1⟩, ⟨1, 20, 3, 1⟩, ⟨0, 25, 8, 0⟩, ⟨4, 30, 2, 1⟩]
def exM : List Mark := [⟨0, 1, 12⟩, ⟨1, 0, 22⟩]
def exG : List Thing := [⟨-1, 0, 20, 0⟩, ⟨0, 5, 9, 0⟩, ⟨1, 10, 5, 1⟩, ⟨1, 20, 5, 1⟩, ⟨0, 25, 8, 0⟩, ⟨4, 30, 2, 1⟩]
theorem c58 : PC Try.prog 58 [] (.tup [hT exT exM, hT exG exM]) := by
  have h1 := c27 exT exM (by decide) (by decide) 2 5 (by decide)
  have h2 := c27 (pricedT exT 2 5) exM (by decide) (by decide) 3 5 (by decide)
  rw [show pricedT (pricedT exT 2 5) 3 5 = exG from rfl] at h2
  rw [show pricedT exT 2 5 = [⟨-1, 0, 20, 0⟩, ⟨0, 5, 9, 0⟩, ⟨1, 10, 5, 1⟩, ⟨1, 20, 3, 1⟩, ⟨0, 25, 8, 0⟩, ⟨4, 30, 2, 1⟩] from rfl] at h1 h2
  simp only [hT, exT, exM, exG, List.map_cons, List.map_nil, encT, encM] at h1 h2 ⊢
  refine PC.body Try.func58 (by kernel_rfl) rfl (by simp [Try.f58]) rfl ?_
  simp only [Try.f58]
  intro hlen
  simp only [go_sem, List.length_map, and_true, true_and] at hlen
  refine CV.run ?_
  (repeat' (first | ((first | with_reducible refine vcG_split ?_ ?_ | with_reducible refine vcIf_split ?_ ?_ | with_reducible refine vcQ_split ?_ ?_ | with_reducible refine vcDG_split ?_ ?_) <;> intro hb <;> (try rw [hb]) <;> (try simp only [Bool.and_eq_true, Bool.or_eq_true, dtrue, dfalse, Bool.not_eq_true', Bool.not_eq_false', Bool.and_eq_false_iff, Bool.or_eq_false_iff, Bool.not_true, Bool.not_false] at hb) <;> (try simp only [within] at hb) <;> try (simp only [go_sem])) | refine And.intro (by (first | exact trivial | (simp only [I64]; omega) | omega)) ?_ | (with_reducible rw [vc_draw_eq]; first | refine CV.draw (id := 2) [(0, 0), (0, 0), (0, 0), (0, 0), (0, 0), (0, 0)] mixed rfl (by kernel_rfl) ?_) | (first | (refine vcP_pure (h1) rfl ?_ ?_ ?_; (focus (first | rfl | ((simp only [go_sem, AV.pureL, AV.pure, pureL_mapI, Bool.and_self]) <;> fail))); (focus (first | ((simp only [go_sem]) <;> fail) | rfl))) | (refine dCallP_pure (h1) rfl ?_ ?_ ?_; (focus (first | rfl | ((simp only [go_sem, AV.pureL, AV.pure, pureL_mapI, Bool.and_self]) <;> fail))); (focus (first | ((simp only [go_sem]) <;> fail) | rfl))) | refine vcP_safe (h1) rfl rfl (by (simp only [go_sem])) ?_ | refine dCallP_safe (h1) rfl rfl ?_ | (refine vcP_pure (h2) rfl ?_ ?_ ?_; (focus (first | rfl | ((simp only [go_sem, AV.pureL, AV.pure, pureL_mapI, Bool.and_self]) <;> fail))); (focus (first | ((simp only [go_sem]) <;> fail) | rfl))) | (refine dCallP_pure (h2) rfl ?_ ?_ ?_; (focus (first | rfl | ((simp only [go_sem, AV.pureL, AV.pure, pureL_mapI, Bool.and_self]) <;> fail))); (focus (first | ((simp only [go_sem]) <;> fail) | rfl))) | refine vcP_safe (h2) rfl rfl (by (simp only [go_sem])) ?_ | refine dCallP_safe (h2) rfl rfl ?_) | (simp only [go_sem])))
  all_goals trace_state
end Go.Proofs.Ytllmohmgakdbdaa
