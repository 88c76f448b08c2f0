/- Contracts of functions of the given program, without a condition beyond those that each theorem states; they lead to the given statement. -/
import Derived.Test.YtoadkchhimojlaaGreatG04c
set_option linter.unusedSimpArgs false
set_option linter.unusedVariables false
set_option maxRecDepth 100000
namespace Go.Proofs.YtoadkchhimojlaaGreat
open Go Go.Fl
open Classical
def sG04d_f67_4 : List (Nat × Nat) := [(0, 0), (0, 0), (0, 0), (0, 0), (0, 0), (0, 0), (0, 0), (0, 0), (1, 1), (1, 1)]
theorem okQ.okP {h : House} {p : List (List Int)} (hk : okG h) (q : okQ h.ms.length h.bs.length p) : okP h p := by
  obtain ⟨k1, k2, k3, k4, _⟩ := hk
  exact ⟨by rw [q.len]; exact Nat.le_refl _, fun l hl => ⟨by have := q.short hl; omega, q.rng l hl⟩⟩
theorem tim_len (h : House) (p : List (List Int)) : (tim h p).length = 5 := by
  have : ∀ (ms : List Mach) (p : List (List Int)) (T : List Int), (timF h ms p T).length = T.length := by
    intro ms
    induction ms with
    | nil => intro p T; rfl
    | cons m ms ih =>
      intro p T
      cases p with
      | nil => rfl
      | cons l p => rw [timF, ih, runM_len]
  exact this _ _ _
theorem rdy_len (h : House) (T : List Int) : (rdy h T).length = 4 := rdF_len T h.bs 0 r0
theorem ltG_bd {h : House} (hk : okG h) (R : List Int) : 0 ≤ ltG h R ∧ ltG h R < 16 := by
  have h1 := ltM_bd h R h.ts.length
  have h2 := pow_bd (i := h.ts.length) hk.2.2.1
  unfold ltG
  omega
def lateP (h : House) (p : List (List Int)) : List Int := bitsP (ltG h (rdy h (tim h p))) 4
set_option maxHeartbeats 1000000 in
theorem h67 (h : House) (hk : okG h) (p : List (List Int)) (hq : okQ h.ms.length h.bs.length p) (hn : p.flatten.Nodup) : HCH Tryz.prog 67 [hG h, lP p] [] fun r H' => r = .tup [.row 0 (lateP h p).length, .int .i64 0] ∧ H' = [.row 3 1 ((lateP h p).map encN) false] := by
  refine HCH.onlyRow (pre := [.box 26 (cG h) false]) (by rw [pureN]; trivial) rfl ?_
  have c1 := c93 h hk p hq hn
  have c2 := c96 h hk p (hq.okP hk)
  have c3 := c95 h hk (tim h p) (tim_len h p)
  have c4' := c94 h hk (rdy h (tim h p)) (rdy_len h _)
  have hb := ltG_bd hk (rdy h (tim h p))
  have c5 := h97 _ hb.1 hb.2
  refine HCH.body Tryz.func67 (by kernel_rfl) rfl (by simp [Tryz.f67]) ?_
  simp only [Tryz.f67]
  refine CV.run ?_
  (repeat' (first | ((with_reducible first | refine vcG_split ?_ ?_ | refine vcIf_split ?_ ?_ | refine vcQ_split ?_ ?_ | refine vcDG_split ?_ ?_) <;> intro hb <;> (try rw [hb]) <;> (try simp only [bq, bz, dtrue, dfalse] at hb) <;> (try simp only [within] at hb) <;> try (simp only [go_sem])) | refine And.intro (by first | exact trivial | omega | (simp only [I64]; omega)) ?_ | (with_reducible rw [vc_draw_eq]; first | (refine CV.draw (id := 4) sG04d_f67_4 mixed rfl (by kernel_rfl) ?_; delta sG04d_f67_4)) | ((with_reducible first | refine vp c1 ?_ ?_ | refine dc c1 ?_ ?_); focus (first | exact ⟨rfl, .inl ⟨by first | rfl | simp only [go_sem, AV.pureL, AV.pure], by first | (simp only [go_sem]; done) | rfl⟩⟩ | exact ⟨rfl, .inr ⟨rfl, by simp only [go_sem]⟩⟩)) | ((with_reducible first | refine dp c1 ?_ ?_); focus exact ⟨rfl, by first | rfl | simp only [go_sem, AV.pureL, AV.pure], by first | (simp only [go_sem]; done) | rfl⟩) | ((with_reducible first | refine ds c1 ?_ ?_); focus exact ⟨rfl, rfl⟩) | (simp only [go_sem])))
  refine dp c2 ⟨pureL_mapI _, rfl, by (simp only [go_sem, frzL_mapI])⟩ ?_
  (repeat' (first | ((with_reducible first | refine vcG_split ?_ ?_ | refine vcIf_split ?_ ?_ | refine vcQ_split ?_ ?_ | refine vcDG_split ?_ ?_) <;> intro hb <;> (try rw [hb]) <;> (try simp only [bq, bz, dtrue, dfalse] at hb) <;> (try simp only [within] at hb) <;> try (simp only [go_sem])) | refine And.intro (by first | exact trivial | omega | (simp only [I64]; omega)) ?_ | (with_reducible rw [vc_draw_eq]; first | (refine CV.draw (id := 4) sG04d_f67_4 mixed rfl (by kernel_rfl) ?_; delta sG04d_f67_4)) | (simp only [go_sem])))
  refine dp c3 ⟨pureL_mapI _, by (simp only [go_sem, pureL_mapI]), by (simp only [go_sem, frzL_mapI])⟩ ?_
  (repeat' (first | ((with_reducible first | refine vcG_split ?_ ?_ | refine vcIf_split ?_ ?_ | refine vcQ_split ?_ ?_ | refine vcDG_split ?_ ?_) <;> intro hb <;> (try rw [hb]) <;> (try simp only [bq, bz, dtrue, dfalse] at hb) <;> (try simp only [within] at hb) <;> try (simp only [go_sem])) | refine And.intro (by first | exact trivial | omega | (simp only [I64]; omega)) ?_ | (with_reducible rw [vc_draw_eq]; first | (refine CV.draw (id := 4) sG04d_f67_4 mixed rfl (by kernel_rfl) ?_; delta sG04d_f67_4)) | (simp only [go_sem])))
  refine dp c4' ⟨rfl, by (simp only [go_sem, pureL_mapI]), by (simp only [go_sem, frzL_mapI])⟩ ?_
  (repeat' (first | ((with_reducible first | refine vcG_split ?_ ?_ | refine vcIf_split ?_ ?_ | refine vcQ_split ?_ ?_ | refine vcDG_split ?_ ?_) <;> intro hb <;> (try rw [hb]) <;> (try simp only [bq, bz, dtrue, dfalse] at hb) <;> (try simp only [within] at hb) <;> try (simp only [go_sem])) | refine And.intro (by first | exact trivial | omega | (simp only [I64]; omega)) ?_ | (with_reducible rw [vc_draw_eq]; first | (refine CV.draw (id := 4) sG04d_f67_4 mixed rfl (by kernel_rfl) ?_; delta sG04d_f67_4)) | (simp only [go_sem])))
  refine dCallC_here rfl (c5.newAt rfl _) ?_
  (repeat' (first | ((with_reducible first | refine vcG_split ?_ ?_ | refine vcIf_split ?_ ?_ | refine vcQ_split ?_ ?_ | refine vcDG_split ?_ ?_) <;> intro hb <;> (try rw [hb]) <;> (try simp only [bq, bz, dtrue, dfalse] at hb) <;> (try simp only [within] at hb) <;> try (simp only [go_sem])) | refine And.intro (by first | exact trivial | omega | (simp only [I64]; omega)) ?_ | (with_reducible rw [vc_draw_eq]; first | (refine CV.draw (id := 4) sG04d_f67_4 mixed rfl (by kernel_rfl) ?_; delta sG04d_f67_4)) | (simp only [go_sem])))
  exact ⟨rfl, rfl⟩
end Go.Proofs.YtoadkchhimojlaaGreat

