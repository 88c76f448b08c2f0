/- Contracts of functions of the given program, without a condition beyond those that each theorem states; they lead to the given statement. -/
import Derived.Test.YtjlopclpofbgbaaDoorF10p
set_option linter.unusedSimpArgs false
set_option linter.unusedVariables false
set_option maxRecDepth 100000
namespace Go.Proofs.YtjlopclpofbgbaaDoor
open Go Go.Fl
open Classical
def sF10q_f25_1 : List (Nat × Nat) := [(0, 0), (0, 0), (0, 0), (0, 0), (0, 0), (0, 0), (0, 0), (0, 0), (0, 0), (0, 0)]
def sF10q_f28_1 : List (Nat × Nat) := [(0, 0), (0, 0), (0, 0), (0, 0), (0, 0), (0, 0), (0, 0), (0, 0), (0, 0), (0, 0)]
def sF10q_f46_1 : List (Nat × Nat) := [(0, 0), (0, 0), (0, 0), (0, 0), (0, 0), (0, 0), (0, 0), (0, 0), (0, 0), (0, 0)]
def sF10q_f51_1 : List (Nat × Nat) := [(0, 0), (0, 0), (0, 0), (0, 0), (0, 0), (0, 0), (0, 0), (0, 0), (0, 0), (0, 0)]
theorem c98 (t : Town) (hk : okThings t.ts) (h8 : t.ts.length ≤ 8) (hp : t.pl.length = t.ts.length) : PC Tryd.prog 98 [hG t] (.bool (decide (safeP t))) := by
  refine PC.body Tryd.func98 (by kernel_rfl) rfl (by simp [Tryd.f98]) rfl ?_
  simp only [Tryd.f98]
  intro hlen
  simp only [go_sem, List.length_map, and_true, true_and] at hlen
  refine CV.run ?_
  (repeat' (first | ((with_reducible first | apply sg | apply si | apply sq | apply sd) <;> intro hb <;> (try rw [hb]) <;> (try simp only [bq, bz, dtrue, dfalse] at hb) <;> (try simp only [within] at hb) <;> try simp only [go_sem]) | refine And.intro (by first | exact ⟨⟩ | omega | (simp only [I64]; omega)) ?_ | (simp only [go_sem])))
  refine vc_for (fun b => ⟨[(12, .int .i64 b), (11, .int .i64 t.rm.length), (0, hG t), (2, .bool false)], []⟩) t.rm.length (fun b => ∀ k : Nat, k < b → los t k = [] ∧ sta t k = []) (by (first | exact wk_same (by simp only [go_sem, Int.natCast_add, cn, Int.cast_ofNat_Int]) | (refine wk_drop ?_ ?_ ?_ ?_ ?_ <;> simp only [go_sem, Int.natCast_add, cn, Int.cast_ofNat_Int]))) (fun k h => by omega) ?_
  intro b hb hx
  rcases Nat.lt_or_ge b t.rm.length with hlt | hge
  · have hlt' : (b : Int) < t.rm.length := by omega
    have h72 := c72 t b hk h8 hp
    have h1 := los_len (t := t) (b := b)
    have h2 := sta_len (t := t) (b := b)
    by_cases h : los t b = [] ∧ sta t b = []
    · rw [h.1, h.2] at h72
      (repeat' (first | ((with_reducible first | apply sg | apply si | apply sq | apply sd) <;> intro hb <;> (try rw [hb]) <;> (try simp only [bq, bz, dtrue, dfalse] at hb) <;> (try simp only [within] at hb) <;> try simp only [go_sem]) | refine And.intro (by first | exact ⟨⟩ | omega | (simp only [I64]; omega)) ?_ | ((with_reducible first | refine vp h72 ?_ ?_); focus (first | exact ⟨rfl, .inl ⟨by first | rfl | (simp only [go_sem, hlt', List.length_map, List.length_nil, AV.pureL, AV.pure]; done), by first | (simp only [go_sem, hlt', List.length_map, List.length_nil, AV.pureL, AV.pure]; done) | rfl⟩⟩ | exact ⟨rfl, .inr ⟨rfl, by simp only [go_sem, hlt', List.length_map, List.length_nil]⟩⟩)) | (simp only [go_sem, hlt', List.length_map, List.length_nil])))
      all_goals first
        | (exfalso; omega)
        | (refine ⟨by (first | exact wk_same (by simp only [go_sem, Int.natCast_add, cn, Int.cast_ofNat_Int]) | (refine wk_drop ?_ ?_ ?_ ?_ ?_ <;> simp only [go_sem, Int.natCast_add, cn, Int.cast_ofNat_Int])), fun k hk => ?_⟩
           rcases Nat.lt_or_ge k b with q | q
           · exact hx k q
           · have : k = b := by omega
             subst this; exact h)
    · have h3 : (0 : Int) < (los t b).length + (sta t b).length := by
        rcases Nat.eq_zero_or_pos ((los t b).length + (sta t b).length) with q | q
        · exact absurd ⟨List.eq_nil_of_length_eq_zero (by omega), List.eq_nil_of_length_eq_zero (by omega)⟩ h
        · omega
      (repeat' (first | ((with_reducible first | apply sg | apply si | apply sq | apply sd) <;> intro hb <;> (try rw [hb]) <;> (try simp only [bq, bz, dtrue, dfalse] at hb) <;> (try simp only [within] at hb) <;> try simp only [go_sem]) | refine And.intro (by first | exact ⟨⟩ | omega | (simp only [I64]; omega)) ?_ | ((with_reducible first | refine vp h72 ?_ ?_); focus (first | exact ⟨rfl, .inl ⟨by first | rfl | (simp only [go_sem, hlt', h3, List.length_map, AV.pureL, AV.pure]; done), by first | (simp only [go_sem, hlt', h3, List.length_map, AV.pureL, AV.pure]; done) | rfl⟩⟩ | exact ⟨rfl, .inr ⟨rfl, by simp only [go_sem, hlt', h3, List.length_map]⟩⟩)) | (simp only [go_sem, hlt', h3, List.length_map])))
      all_goals first
        | omega
        | exact bf (p := safeP t) fun hs => h (hs b hlt)
  · have hge' : ¬ (b : Int) < t.rm.length := by omega
    (repeat' (first | ((with_reducible first | apply sg | apply si | apply sq | apply sd) <;> intro hb <;> (try rw [hb]) <;> (try simp only [bq, bz, dtrue, dfalse] at hb) <;> (try simp only [within] at hb) <;> try simp only [go_sem]) | refine And.intro (by first | exact ⟨⟩ | omega | (simp only [I64]; omega)) ?_ | (simp only [go_sem, hge', List.length_map])))
    exact bt (p := safeP t) fun k hk => hx k (by omega)
theorem c59y (t : Town) (hv : validT t) : PC Tryd.prog 59 [hF t] (.tup [.bool (decide (safeP t)), .int .i64 0]) := by
  have h67 := c67y t hv
  have h98 := c98 t hv.things hv.len hv.lp
  refine PC.body Tryd.func59 (by kernel_rfl) rfl (by simp [Tryd.f59]) rfl ?_
  simp only [Tryd.f59]
  intro hlen
  simp only [go_sem, List.length_map, and_true, true_and] at hlen
  refine CV.run ?_
  (repeat' (first | ((with_reducible first | apply sg | apply si | apply sq | apply sd) <;> intro hb <;> (try rw [hb]) <;> (try simp only [bq, bz, dtrue, dfalse] at hb) <;> (try simp only [within] at hb) <;> try simp only [go_sem]) | refine And.intro (by first | exact ⟨⟩ | omega | (simp only [I64]; omega)) ?_ | ((with_reducible first | refine vp h67 ?_ ?_ | refine vp h98 ?_ ?_); focus (first | exact ⟨rfl, .inl ⟨by first | rfl | (simp only [go_sem, AV.pureL, AV.pure]; done), by first | (simp only [go_sem, AV.pureL, AV.pure]; done) | rfl⟩⟩ | exact ⟨rfl, .inr ⟨rfl, by simp only [go_sem]⟩⟩)) | (simp only [go_sem])))
theorem c25y (t : Town) (b : Int) (hv : validT t) (hb : house t b) : PC Tryd.prog 25 [hF t, .int .i64 b] (.tup [lN (los t b), .int .i64 0]) := by
  have h68 := (c68 t b).tru hb
  have h67 := c67y t hv
  have h72 := c72 t b hv.things hv.len hv.lp
  refine PC.body Tryd.func25 (by kernel_rfl) rfl (by simp [Tryd.f25]) rfl ?_
  simp only [Tryd.f25]
  intro hlen
  simp only [go_sem, List.length_map, and_true, true_and] at hlen
  refine CV.run ?_
  (repeat' (first | ((with_reducible first | apply sg | apply si | apply sq | apply sd) <;> intro hb <;> (try rw [hb]) <;> (try simp only [bq, bz, dtrue, dfalse] at hb) <;> (try simp only [within] at hb) <;> try simp only [go_sem]) | refine And.intro (by first | exact ⟨⟩ | omega | (simp only [I64]; omega)) ?_ | (with_reducible rw [vc_draw_eq]; first | (refine CV.draw (id := 1) sF10q_f25_1 mixed rfl (by kernel_rfl) ?_; delta sF10q_f25_1)) | ((with_reducible first | refine vp h68 ?_ ?_ | refine dc h68 ?_ ?_ | refine vp h67 ?_ ?_ | refine dc h67 ?_ ?_ | refine vp h72 ?_ ?_ | refine dc h72 ?_ ?_); focus (first | exact ⟨rfl, .inl ⟨by first | rfl | (simp only [go_sem, AV.pureL, AV.pure]; done), by first | (simp only [go_sem, AV.pureL, AV.pure]; done) | rfl⟩⟩ | exact ⟨rfl, .inr ⟨rfl, by simp only [go_sem]⟩⟩)) | ((with_reducible first | refine dp h68 ?_ ?_ | refine dp h67 ?_ ?_ | refine dp h72 ?_ ?_); focus (exact ⟨rfl, by first | rfl | (simp only [go_sem, AV.pureL, AV.pure]; done), by first | (simp only [go_sem, AV.pureL, AV.pure]; done) | rfl⟩)) | ((with_reducible first | refine ds h68 ?_ ?_ | refine ds h67 ?_ ?_ | refine ds h72 ?_ ?_); focus exact ⟨rfl, rfl⟩) | (simp only [go_sem])))
theorem c28y (t : Town) (b : Int) (hv : validT t) (hb : house t b) : PC Tryd.prog 28 [hF t, .int .i64 b] (.tup [lN (sta t b), .int .i64 0]) := by
  have h68 := (c68 t b).tru hb
  have h67 := c67y t hv
  have h72 := c72 t b hv.things hv.len hv.lp
  refine PC.body Tryd.func28 (by kernel_rfl) rfl (by simp [Tryd.f28]) rfl ?_
  simp only [Tryd.f28]
  intro hlen
  simp only [go_sem, List.length_map, and_true, true_and] at hlen
  refine CV.run ?_
  (repeat' (first | ((with_reducible first | apply sg | apply si | apply sq | apply sd) <;> intro hb <;> (try rw [hb]) <;> (try simp only [bq, bz, dtrue, dfalse] at hb) <;> (try simp only [within] at hb) <;> try simp only [go_sem]) | refine And.intro (by first | exact ⟨⟩ | omega | (simp only [I64]; omega)) ?_ | (with_reducible rw [vc_draw_eq]; first | (refine CV.draw (id := 1) sF10q_f28_1 mixed rfl (by kernel_rfl) ?_; delta sF10q_f28_1)) | ((with_reducible first | refine vp h68 ?_ ?_ | refine dc h68 ?_ ?_ | refine vp h67 ?_ ?_ | refine dc h67 ?_ ?_ | refine vp h72 ?_ ?_ | refine dc h72 ?_ ?_); focus (first | exact ⟨rfl, .inl ⟨by first | rfl | (simp only [go_sem, AV.pureL, AV.pure]; done), by first | (simp only [go_sem, AV.pureL, AV.pure]; done) | rfl⟩⟩ | exact ⟨rfl, .inr ⟨rfl, by simp only [go_sem]⟩⟩)) | ((with_reducible first | refine dp h68 ?_ ?_ | refine dp h67 ?_ ?_ | refine dp h72 ?_ ?_); focus (exact ⟨rfl, by first | rfl | (simp only [go_sem, AV.pureL, AV.pure]; done), by first | (simp only [go_sem, AV.pureL, AV.pure]; done) | rfl⟩)) | ((with_reducible first | refine ds h68 ?_ ?_ | refine ds h67 ?_ ?_ | refine ds h72 ?_ ?_); focus exact ⟨rfl, rfl⟩) | (simp only [go_sem])))
theorem c46y (t : Town) (i : Int) (hv : validT t) (hi : thing t i) : PC Tryd.prog 46 [hF t, .int .i64 i] (.tup [.bool (decide (fr t i)), .int .i64 0]) := by
  have h87 := (c87 t i).tru hi
  have h67 := c67y t hv
  unfold thing within at hi
  obtain ⟨n, rfl⟩ : ∃ n : Nat, i = n := ⟨i.toNat, by omega⟩
  have h88 := c88 t hv.things hv.len n (by omega)
  refine PC.body Tryd.func46 (by kernel_rfl) rfl (by simp [Tryd.f46]) rfl ?_
  simp only [Tryd.f46]
  intro hlen
  simp only [go_sem, List.length_map, and_true, true_and] at hlen
  refine CV.run ?_
  (repeat' (first | ((with_reducible first | apply sg | apply si | apply sq | apply sd) <;> intro hb <;> (try rw [hb]) <;> (try simp only [bq, bz, dtrue, dfalse] at hb) <;> (try simp only [within] at hb) <;> try simp only [go_sem]) | refine And.intro (by first | exact ⟨⟩ | omega | (simp only [I64]; omega)) ?_ | (with_reducible rw [vc_draw_eq]; first | (refine CV.draw (id := 1) sF10q_f46_1 mixed rfl (by kernel_rfl) ?_; delta sF10q_f46_1)) | ((with_reducible first | refine vp h87 ?_ ?_ | refine dc h87 ?_ ?_ | refine vp h67 ?_ ?_ | refine dc h67 ?_ ?_ | refine vp h88 ?_ ?_ | refine dc h88 ?_ ?_); focus (first | exact ⟨rfl, .inl ⟨by first | rfl | (simp only [go_sem, AV.pureL, AV.pure]; done), by first | (simp only [go_sem, AV.pureL, AV.pure]; done) | rfl⟩⟩ | exact ⟨rfl, .inr ⟨rfl, by simp only [go_sem]⟩⟩)) | ((with_reducible first | refine dp h87 ?_ ?_ | refine dp h67 ?_ ?_ | refine dp h88 ?_ ?_); focus (exact ⟨rfl, by first | rfl | (simp only [go_sem, AV.pureL, AV.pure]; done), by first | (simp only [go_sem, AV.pureL, AV.pure]; done) | rfl⟩)) | ((with_reducible first | refine ds h87 ?_ ?_ | refine ds h67 ?_ ?_ | refine ds h88 ?_ ?_); focus exact ⟨rfl, rfl⟩) | (simp only [go_sem])))
theorem c51y (t : Town) (i : Int) (hv : validT t) (hi : thing t i) : PC Tryd.prog 51 [hF t, .int .i64 i] (.tup [.int .i64 (pg t i), .int .i64 0]) := by
  have h87 := (c87 t i).tru hi
  have h67 := c67y t hv
  unfold thing within at hi
  obtain ⟨n, rfl⟩ : ∃ n : Nat, i = n := ⟨i.toNat, by omega⟩
  have hg := gs_get (t := t) (i := n) (j := t.ts.length) (by omega)
  have gl : (gs t t.ts.length).length = t.ts.length := gs_len
  have hn : (n : Int) < t.ts.length := by omega
  rw [encG] at hg
  refine PC.body Tryd.func51 (by kernel_rfl) rfl (by simp [Tryd.f51]) rfl ?_
  simp only [Tryd.f51]
  intro hlen
  simp only [go_sem, List.length_map, and_true, true_and] at hlen
  refine CV.run ?_
  (repeat' (first | ((with_reducible first | apply sg | apply si | apply sq | apply sd) <;> intro hb <;> (try rw [hb]) <;> (try simp only [bq, bz, dtrue, dfalse] at hb) <;> (try simp only [within] at hb) <;> try simp only [go_sem]) | refine And.intro (by first | exact ⟨⟩ | omega | (simp only [I64]; omega)) ?_ | (with_reducible rw [vc_draw_eq]; first | (refine CV.draw (id := 1) sF10q_f51_1 mixed rfl (by kernel_rfl) ?_; delta sF10q_f51_1)) | ((with_reducible first | refine vp h87 ?_ ?_ | refine dc h87 ?_ ?_ | refine vp h67 ?_ ?_ | refine dc h67 ?_ ?_); focus (first | exact ⟨rfl, .inl ⟨by first | rfl | (simp only [go_sem, hg, gl, hn, AV.pureL, AV.pure]; done), by first | (simp only [go_sem, hg, gl, hn, AV.pureL, AV.pure]; done) | rfl⟩⟩ | exact ⟨rfl, .inr ⟨rfl, by simp only [go_sem, hg, gl, hn]⟩⟩)) | ((with_reducible first | refine dp h87 ?_ ?_ | refine dp h67 ?_ ?_); focus (exact ⟨rfl, by first | rfl | (simp only [go_sem, hg, gl, hn, AV.pureL, AV.pure]; done), by first | (simp only [go_sem, hg, gl, hn, AV.pureL, AV.pure]; done) | rfl⟩)) | ((with_reducible first | refine ds h87 ?_ ?_ | refine ds h67 ?_ ?_); focus exact ⟨rfl, rfl⟩) | (simp only [go_sem, hg, gl, hn])))
  all_goals omega
end Go.Proofs.YtjlopclpofbgbaaDoor

