/- Contracts of functions of the given program, without a condition beyond those that each theorem states; they lead to the given statement. -/
import Derived.Test.YtjlopclpofbgbaaDoorF11b
import Derived.Test.YtjlopclpofbgbaaDoorF11c
set_option linter.unusedSimpArgs false
set_option linter.unusedVariables false
set_option maxRecDepth 100000
namespace Go.Proofs.YtjlopclpofbgbaaDoor
open Go Go.Fl
open Classical
theorem exT_valid : validT exT := by
  refine ⟨⟨by decide, by decide, ?_, ?_⟩, ⟨by decide, by decide⟩, ?_, rfl, ?_, rfl, ?_, ⟨by decide, by decide⟩, roomyB_iff.2 (by decide)⟩
  · intro i t h
    have : i < 5 := (List.getElem?_eq_some_iff.1 h).1
    have hi : i = 0 ∨ i = 1 ∨ i = 2 ∨ i = 3 ∨ i = 4 := by omega
    rcases hi with rfl | rfl | rfl | rfl | rfl <;> cases h <;> exact ⟨⟨by decide, by decide⟩, ⟨by decide, by decide⟩, fun _ => by decide, ⟨by decide, by decide⟩, ⟨by decide, by decide⟩⟩
  · intro m hm
    simp only [exT, List.mem_cons, List.not_mem_nil, or_false] at hm
    rcases hm with rfl | rfl <;> exact ⟨⟨by decide, by decide⟩, ⟨by decide, by decide⟩, by decide, by decide⟩
  · intro r hr
    simp only [exT, List.mem_cons, List.not_mem_nil, or_false] at hr
    rcases hr with rfl | rfl | rfl <;> exact ⟨by decide, by decide⟩
  · intro r hr
    simp only [exT, List.mem_cons, List.not_mem_nil, or_false] at hr
    rcases hr with rfl | rfl | rfl | rfl | rfl <;> exact ⟨by decide, by decide⟩
  · intro r hr
    simp only [exT, List.mem_cons, List.not_mem_nil, or_false] at hr
    rcases hr with rfl | rfl | rfl | rfl | rfl <;> exact ⟨by decide, by decide⟩
theorem ex_pg : pg exT 4 = 3 := by decide
def stB (t : Town) (b : Int) (i : Nat) : Bool := thB t i && decide (gv t.pl i ≠ b)
theorem stB_iff {t : Town} {b : Int} {i : Nat} : stays t b i ↔ stB t b i = true := by
  unfold stays stB; rw [thB_iff, Bool.and_eq_true, decide_eq_true_eq]
theorem ex_left : lft exT (allI exT.ts.length) 0 = [1, 2, 3, 4] := by
  rw [lft_all, sel_selB (q := stB exT 0) _ fun _ _ => stB_iff]; decide
def onB (t : Town) (b p : Int) (i : Nat) : Bool := stB t b i && decide (pg t i = p)
theorem onB_iff {t : Town} {b p : Int} {i : Nat} : onP t b p i ↔ onB t b p i = true := by
  unfold onP onB; rw [stB_iff, Bool.and_eq_true, decide_eq_true_eq]
theorem on_B {t : Town} {b p : Int} : lft t (thg t p) b = selB (onB t b p) t.ts.length := by rw [lft_on]; exact sel_selB _ fun _ _ => onB_iff
def frOnB (t : Town) (b p : Int) (i : Nat) : Bool := onB t b p i && frB t i
theorem frOn_B {t : Town} {b p : Int} : sel (frP t b p) t.ts.length = selB (frOnB t b p) t.ts.length := sel_selB _ fun i _ => by
  unfold frP frOnB; rw [onB_iff, frB_iff, Bool.and_eq_true]
def inB (t : Town) (p : Nat) : Bool := (List.range t.ts.length).any fun i => thB t i && decide (pg t i = p)
theorem inB_iff {t : Town} {p : Nat} : inG t t.ts.length p ↔ inB t p = true := by
  unfold inG inB
  simp only [List.any_eq_true, List.mem_range, Bool.and_eq_true, decide_eq_true_eq, ← thB_iff]
def losB (t : Town) (b : Int) (p : Nat) : Bool := inB t p && (selB (onB t b p) t.ts.length).isEmpty
def staB (t : Town) (b : Int) (p : Nat) : Bool := inB t p && !(selB (onB t b p) t.ts.length).isEmpty && (selB (frOnB t b p) t.ts.length).isEmpty
theorem los_B {t : Town} (hk : okThings t.ts) {b : Int} : los t b = selB (losB t b) t.ts.length := by
  rw [los_eq hk]
  refine sel_selB _ fun p _ => ?_
  unfold losQ losB
  rw [inB_iff, Bool.and_eq_true, List.isEmpty_iff, ← on_B, lft_on]
theorem sta_B {t : Town} (hk : okThings t.ts) {b : Int} : sta t b = selB (staB t b) t.ts.length := by
  rw [sta_eq hk]
  refine sel_selB _ fun p _ => ?_
  unfold staQ staB
  rw [inB_iff, Bool.and_eq_true, Bool.and_eq_true, List.isEmpty_iff, Bool.not_eq_true', ← on_B, lft_on, frOn_B, and_assoc]
  refine and_congr_right fun _ => and_congr_left fun _ => ?_
  cases sel (onP t b p) t.ts.length <;> simp
theorem ex_lost : los exT 1 = [3] := by rw [los_B exT_valid.things]; decide
theorem ex_stale : sta exT 1 = [0] := by rw [sta_B exT_valid.things]; decide
theorem ex_again : ag exT (lft exT (thg exT 0) 1) = some [0] := by
  rw [on_B, show selB (onB exT 1 0) exT.ts.length = [0] from by decide]
  show some (lks exT ((0 : Nat) : Int)) = _
  rw [lks_B]
  exact congrArg some (by decide)
theorem ex_grp : grp exT = [[1, 2], [3, 4]] := by decide
set_option maxHeartbeats 4000000 in
theorem ex_rem : remT exT = some ([0, 0, 1, 1, 0], (5, 2)) := by
  unfold remT
  rw [vis_B (by decide) _ _ _ _ _ rfl (fun i hi => absurd hi (Nat.not_lt_zero _)), ex_grp]
  decide
set_option maxHeartbeats 1000000 in
theorem c17 : PC Tryd.prog 17 [] (.bool true) := by
  have hv := exT_valid
  have h51 := c51y exT 4 hv ⟨by decide, by decide⟩
  have h23 := c23y exT 0 hv ⟨by decide, by decide⟩
  have h25 := c25y exT 1 hv ⟨by decide, by decide⟩
  have h28 := c28y exT 1 hv ⟨by decide, by decide⟩
  have h30 := c30y exT 1 0 hv ⟨by decide, by decide⟩ ⟨⟨by decide, by decide⟩, rfl⟩
  have h34 := c34y exT hv
  have h36 := c36y exT hv
  rw [ex_pg] at h51
  rw [ex_left] at h23
  rw [ex_lost] at h25
  rw [ex_stale] at h28
  rw [ex_again] at h30
  rw [ex_rem] at h34 h36
  simp only [resA, lstS_s, pS_s, eS_s] at h30 h34 h36
  have h63 := c63
  have e1 := (c27 [1, 2, 3, 4] [1, 2, 3, 4]).tru rfl
  have e2 := (c27 [3] [3]).tru rfl
  have e3 := (c27 [0] [0]).tru rfl
  have e4 := (c27 [0, 0, 1, 1, 0] [0, 0, 1, 1, 0]).tru rfl
  simp only [lN, List.map_cons, List.map_nil, encN] at h23 h25 h28 h30 h36 e1 e2 e3 e4
  refine PC.body Tryd.func17 (by kernel_rfl) rfl (by simp [Tryd.f17]) rfl ?_
  simp only [Tryd.f17]
  intro hlen
  simp only [go_sem, List.length_map, and_true, true_and] at hlen
  refine CV.run ?_
  (repeat' (first | ((with_reducible first | apply sg | apply si | apply sq | apply sd) <;> intro hb <;> (try rw [hb]) <;> (try simp only [bq, bz, dtrue, dfalse] at hb) <;> (try simp only [within] at hb) <;> try simp only [go_sem]) | refine And.intro (by first | exact ⟨⟩ | omega | (simp only [I64]; omega)) ?_ | ((with_reducible first | refine vp h63 ?_ ?_ | refine vp h51 ?_ ?_ | refine vp h23 ?_ ?_ | refine vp h25 ?_ ?_ | refine vp h28 ?_ ?_ | refine vp h30 ?_ ?_ | refine vp h34 ?_ ?_ | refine vp h36 ?_ ?_ | refine vp e1 ?_ ?_ | refine vp e2 ?_ ?_ | refine vp e3 ?_ ?_ | refine vp e4 ?_ ?_); focus (first | exact ⟨rfl, .inl ⟨by first | rfl | (simp only [go_sem, AV.pureL, AV.pure]; done), by first | (simp only [go_sem, AV.pureL, AV.pure]; done) | rfl⟩⟩ | exact ⟨rfl, .inr ⟨rfl, by simp only [go_sem]⟩⟩)) | (simp only [go_sem])))
  all_goals trace_state
end Go.Proofs.YtjlopclpofbgbaaDoor

