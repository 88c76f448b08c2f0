/- Contracts of functions of the given program, without a condition beyond those that each theorem states; they lead to the given statement. -/
import Derived.Test.YtoadkchhimojlaaK03a
set_option linter.unusedSimpArgs false
set_option linter.unusedVariables false
set_option maxRecDepth 100000
namespace Go.Proofs.Ytoadkchhimojlaa
open Go Go.Fl
open Classical
theorem set_map {l : List Int} {j : Nat} {x : Int} : (l.map encN).set j [.int .i64 x] = (l.set j x).map encN := by rw [List.map_set]; rfl
set_option maxHeartbeats 2000000 in
theorem c23 (h : House) (q : ¬ hugeG h) (n : Int) : PC Try.prog 23 [hG h, .int .i64 n] (hG ⟨h.ms.map fun m => ⟨n, m.pace, m.stops⟩, h.bs, h.ts, h.ch⟩) := by
  have h9 := h9 h q
  have nh := not_hugeG q
  refine PC.body Try.func23 (by kernel_rfl) rfl (by simp [Try.f23]) rfl ?_
  simp only [Try.f23]
  intro hlen
  simp only [go_sem, List.length_map, and_true, true_and] at hlen
  refine CV.run ?_
  (repeat' (first | ((with_reducible first | refine vcG_split ?_ ?_ | refine vcIf_split ?_ ?_ | refine vcQ_split ?_ ?_ | refine vcDG_split ?_ ?_) <;> intro hb <;> (try rw [hb]) <;> (try simp only [bq, bz, dtrue, dfalse] at hb) <;> (try simp only [within] at hb) <;> try (simp only [go_sem])) | refine And.intro (by first | exact trivial | omega | (simp only [I64]; omega)) ?_ | (simp only [go_sem])))
  refine vcP_new h9 rfl ?_
  (repeat' (first | ((with_reducible first | refine vcG_split ?_ ?_ | refine vcIf_split ?_ ?_ | refine vcQ_split ?_ ?_ | refine vcDG_split ?_ ?_) <;> intro hb <;> (try rw [hb]) <;> (try simp only [bq, bz, dtrue, dfalse] at hb) <;> (try simp only [within] at hb) <;> try (simp only [go_sem, List.map_cons, List.map_nil, List.cons_append, List.nil_append])) | refine And.intro (by first | exact trivial | omega | (simp only [I64]; omega)) ?_ | (simp only [go_sem, List.map_cons, List.map_nil, List.cons_append, List.nil_append])))
  refine vc_for (fun j => ⟨[(6, .int .i64 j), (5, .lp 7 0), (1, .int .i64 n), (4, .lp 1 0)], [.box 30 (cG h) false, .box 30 [.nilS, .nilS, .nilS, .int .i64 0] false, .box 30 [.lst false 3 (h.ms.map encM), .lst false 3 (h.bs.map encB), lN h.ts, .int .i64 h.ch] false, .box 30 [.row 4 h.ms.length, .row 5 h.bs.length, .row 6 h.ts.length, .int .i64 h.ch] false, .row 62 3 (((h.ms.take j).map (fun m => Mach.mk n m.pace m.stops) ++ h.ms.drop j).map encM) false, .row 44 3 (h.bs.map encB) false, .row 3 1 (h.ts.map encN) false, .box 30 [.row 4 h.ms.length, .row 5 h.bs.length, .row 6 h.ts.length, .int .i64 h.ch] false]⟩) h.ms.length (fun _ => True) (by (first | exact wk_same (by (simp only [go_sem, Int.natCast_add, cn, Int.cast_ofNat_Int, List.take_zero, List.drop_zero, List.map_nil, List.nil_append])) | (refine wk_drop ?_ ?_ ?_ ?_ ?_ <;> (simp only [go_sem, Int.natCast_add, cn, Int.cast_ofNat_Int, List.take_zero, List.drop_zero, List.map_nil, List.nil_append])))) trivial ?_
  intro j hj _
  have hll : ((h.ms.take j).map (fun m => Mach.mk n m.pace m.stops) ++ h.ms.drop j).length = h.ms.length := by simp; omega
  rcases Nat.lt_or_ge j h.ms.length with hlt | hge
  · obtain ⟨m, hm⟩ := get_of hlt
    have hlt' : (j : Int) < h.ms.length := by omega
    have htl : (h.ms.take j).length = j := by rw [List.length_take]; omega
    have hg : ((h.ms.take j).map (fun m => Mach.mk n m.pace m.stops) ++ h.ms.drop j)[j]? = some m := by
      rw [List.getElem?_append_right (by simp; omega), List.length_map, htl, Nat.sub_self, List.getElem?_drop]; simpa using hm
    have hset : ((h.ms.take j).map (fun m => Mach.mk n m.pace m.stops) ++ h.ms.drop j).set j ⟨n, m.pace, m.stops⟩ = (h.ms.take (j + 1)).map (fun m => Mach.mk n m.pace m.stops) ++ h.ms.drop (j + 1) := by
      rw [List.set_append_right _ _ (by simp; omega), List.length_map, htl, Nat.sub_self, drop_cons' hm, List.set_cons_zero, take_succ hm]
      simp
    have hsm : ∀ (l : List Mach) (m' : Mach), (l.map encM).set j (encM m') = (l.set j m').map encM := fun l m' => by rw [List.map_set]
    have hsm' : ∀ (l : List Mach) (a b c : Int), (l.map encM).set j [.int .i64 a, .int .i64 b, .int .i64 c] = (l.set j ⟨a, b, c⟩).map encM := fun l a b c => by rw [List.map_set]; rfl
    have hmE : encM m = [.int .i64 m.ready, .int .i64 m.pace, .int .i64 m.stops] := rfl
    generalize hL : (h.ms.take j).map (fun m => Mach.mk n m.pace m.stops) ++ h.ms.drop j = L at hll hg hset ⊢
    (repeat' (first | ((with_reducible first | refine vcG_split ?_ ?_ | refine vcIf_split ?_ ?_ | refine vcQ_split ?_ ?_ | refine vcDG_split ?_ ?_) <;> intro hb <;> (try rw [hb]) <;> (try simp only [bq, bz, dtrue, dfalse] at hb) <;> (try simp only [within] at hb) <;> try (simp only [go_sem, hlt', hll, hg, hmE, hsm', hset, List.length_map])) | refine And.intro (by first | exact trivial | omega | (simp only [I64]; omega)) ?_ | (simp only [go_sem, hlt', hll, hg, hmE, hsm', hset, List.length_map])))
    (first | exact wk_same (by (simp only [go_sem, Int.natCast_add, cn, Int.cast_ofNat_Int])) | (refine wk_drop ?_ ?_ ?_ ?_ ?_ <;> (simp only [go_sem, Int.natCast_add, cn, Int.cast_ofNat_Int])))
  · have hge' : ¬ (j : Int) < h.ms.length := by omega
    have : j = h.ms.length := by omega
    subst this
    have e1 : h.ms.take h.ms.length = h.ms := List.take_length
    have e2 : h.ms.drop h.ms.length = [] := List.drop_length
    (repeat' (first | ((with_reducible first | refine vcG_split ?_ ?_ | refine vcIf_split ?_ ?_ | refine vcQ_split ?_ ?_ | refine vcDG_split ?_ ?_) <;> intro hb <;> (try rw [hb]) <;> (try simp only [bq, bz, dtrue, dfalse] at hb) <;> (try simp only [within] at hb) <;> try (simp only [go_sem, hge', e1, e2, List.length_map, List.append_nil])) | refine And.intro (by first | exact trivial | omega | (simp only [I64]; omega)) ?_ | (simp only [go_sem, hge', e1, e2, List.length_map, List.append_nil])))
    all_goals trace_state
end Go.Proofs.Ytoadkchhimojlaa

