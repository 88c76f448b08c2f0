/- Contracts of functions of the given program, without a condition beyond those that each theorem states; they lead to the given statement. -/
import Derived.Test.YtoadkchhimojlaaK01h
set_option linter.unusedSimpArgs false
set_option linter.unusedVariables false
set_option maxRecDepth 100000
namespace Go.Proofs.Ytoadkchhimojlaa
open Go Go.Fl
open Classical
theorem vcY_is {P : Program} {nt m : Nat} {R : Exit → St → Prop} {k : List Iv} {dst : Option Nat} {rest : List COp} {env : Env} {H H' : Heap} {l : Nat} {args : List AV} {v : AV} (hy : HCY P l args H fun r H2 => r = v ∧ H2 = H') (h : vc P nt m R (.ops rest :: k) ⟨eput env dst v, H'⟩) : vcY P nt m R l args dst rest k ⟨env, H⟩ :=
  vcY_of (hy.mono fun r H2 ⟨e1, e2⟩ => by rw [e1, e2]; exact h)
noncomputable def fewG (h : House) : AV := if okG h then .tup [.int .i64 (bestG h (-1)).2, .int .i64 0] else .tup [.int .i64 0, .int .i64 40]
theorem c14 (h : House) : PC Try.prog 14 [hG h] (fewG h) := by
  unfold fewG
  by_cases hk : okG h
  · rw [if_pos hk]
    have h37 := c37 h
    rw [show checkG h = 0 from if_pos hk] at h37
    refine PC.body Try.func14 (by kernel_rfl) rfl (by simp [Try.f14]) rfl ?_
    simp only [Try.f14]
    intro hlen
    simp only [go_sem, List.length_map, and_true, true_and] at hlen
    refine CV.run ?_
    (repeat' (first | ((with_reducible first | refine vcG_split ?_ ?_ | refine vcIf_split ?_ ?_ | refine vcQ_split ?_ ?_ | refine vcDG_split ?_ ?_) <;> intro hb <;> (try rw [hb]) <;> (try simp only [bq, bz, dtrue, dfalse] at hb) <;> (try simp only [within] at hb) <;> try (simp only [go_sem])) | refine And.intro (by first | exact trivial | omega | (simp only [I64]; omega)) ?_ | ((with_reducible first | refine vp h37 ?_ ?_ | refine vp (c38 h hk (-1)) ?_ ?_); focus (first | exact ⟨rfl, .inl ⟨by first | rfl | simp only [go_sem, AV.pureL, AV.pure], by first | (simp only [go_sem]; done) | rfl⟩⟩ | exact ⟨rfl, .inr ⟨rfl, by simp only [go_sem]⟩⟩)) | (simp only [go_sem])))
  · rw [if_neg hk]
    have h37 := c37 h
    rw [show checkG h = 40 from if_neg hk] at h37
    refine PC.body Try.func14 (by kernel_rfl) rfl (by simp [Try.f14]) rfl ?_
    simp only [Try.f14]
    intro hlen
    simp only [go_sem, List.length_map, and_true, true_and] at hlen
    refine CV.run ?_
    (repeat' (first | ((with_reducible first | refine vcG_split ?_ ?_ | refine vcIf_split ?_ ?_ | refine vcQ_split ?_ ?_ | refine vcDG_split ?_ ?_) <;> intro hb <;> (try rw [hb]) <;> (try simp only [bq, bz, dtrue, dfalse] at hb) <;> (try simp only [within] at hb) <;> try (simp only [go_sem])) | refine And.intro (by first | exact trivial | omega | (simp only [I64]; omega)) ?_ | ((with_reducible first | refine vp h37 ?_ ?_); focus (first | exact ⟨rfl, .inl ⟨by first | rfl | simp only [go_sem, AV.pureL, AV.pure], by first | (simp only [go_sem]; done) | rfl⟩⟩ | exact ⟨rfl, .inr ⟨rfl, by simp only [go_sem]⟩⟩)) | (simp only [go_sem])))
def caseF : List Mach → Nat → List Int
  | [], _ => []
  | m :: ms, i => (if m.stops = 1 then [(i : Int)] else []) ++ caseF ms (i + 1)
def casesG (h : House) : List Int := -1 :: caseF h.ms 0
theorem c79 (h : House) : PC Try.prog 79 [hG h] (.fn 108 [.pp (cG h)]) := by
  refine PC.body Try.func79 (by kernel_rfl) rfl (by simp [Try.f79]) rfl ?_
  simp only [Try.f79]
  intro hlen
  simp only [go_sem, List.length_map, and_true, true_and] at hlen
  refine CV.run ?_
  (repeat' (first | ((with_reducible first | refine vcG_split ?_ ?_ | refine vcIf_split ?_ ?_ | refine vcQ_split ?_ ?_ | refine vcDG_split ?_ ?_) <;> intro hb <;> (try rw [hb]) <;> (try simp only [bq, bz, dtrue, dfalse] at hb) <;> (try simp only [within] at hb) <;> try (simp only [go_sem])) | refine And.intro (by first | exact trivial | omega | (simp only [I64]; omega)) ?_ | (simp only [go_sem])))
set_option maxHeartbeats 2000000 in
theorem c108 {σ : Type} (h : House) (hk : okG h) (b l : Nat) (HC : σ → Heap) (al : σ → Prop) (st : σ → Int → σ × Bool) (hlen : ∀ s, (HC s).length = b) (hbel : ∀ s, belowH b (HC s)) (hgo : ∀ s n, al s → (st s n).2 = true → al (st s n).1)
    (hy : ∀ s n own, al s → (own = [] ∨ ∃ m, own = [.box 62 (encM m) false]) → HCY Try.prog l [.int .i64 n] (HC s ++ own) fun r H2 => r = .bool (st s n).2 ∧ H2 = HC (st s n).1 ++ own) (s : σ) (hal : al s) :
    HCH Try.prog 108 [.yld l, .pp (cG h)] (HC s) fun r H' => ∃ rest, H' = HC (runC st s (casesG h)).1 ++ rest := by
  obtain ⟨k1, k2, _⟩ := id hk
  have ga1 : ∀ (s : σ) (own : Heap) (i : Nat), (HC s ++ own)[b + i]? = own[i]? := fun s own i => ga (hlen s) i
  have ga2 : ∀ (s : σ) (own : Heap), (HC s ++ own)[b]? = own[0]? := fun s own => ga0 (hlen s)
  have sa2 : ∀ (s : σ) (own : Heap) (v : Blk), (HC s ++ own).set b v = HC s ++ own.set 0 v := fun s own v => sa (i := 0) (hlen s) v
  refine HCH.body Try.func108 (by kernel_rfl) rfl (by simp [Try.f108]) ?_
  simp only [Try.f108]
  refine CV.run ?_
  have y1 := hy s (-1) [] hal (.inl rfl)
  rw [List.append_nil] at y1
  (repeat' (first | ((with_reducible first | refine vcG_split ?_ ?_ | refine vcIf_split ?_ ?_ | refine vcQ_split ?_ ?_ | refine vcDG_split ?_ ?_) <;> intro hb <;> (try rw [hb]) <;> (try simp only [bq, bz, dtrue, dfalse] at hb) <;> (try simp only [within] at hb) <;> try (simp only [go_sem])) | refine And.intro (by first | exact trivial | omega | (simp only [I64]; omega)) ?_ | (simp only [go_sem])))
  refine vcY_is y1 ?_
  cases hR : (st s (-1)).2 with
  | false =>
    (repeat' (first | ((with_reducible first | refine vcG_split ?_ ?_ | refine vcIf_split ?_ ?_ | refine vcQ_split ?_ ?_ | refine vcDG_split ?_ ?_) <;> intro hb <;> (try rw [hb]) <;> (try simp only [bq, bz, dtrue, dfalse] at hb) <;> (try simp only [within] at hb) <;> try (simp only [go_sem])) | refine And.intro (by first | exact trivial | omega | (simp only [I64]; omega)) ?_ | (simp only [go_sem])))
    refine ⟨[], ?_⟩
    simp [casesG, runC, hR]
  | true =>
    (repeat' (first | ((with_reducible first | refine vcG_split ?_ ?_ | refine vcIf_split ?_ ?_ | refine vcQ_split ?_ ?_ | refine vcDG_split ?_ ?_) <;> intro hb <;> (try rw [hb]) <;> (try simp only [bq, bz, dtrue, dfalse] at hb) <;> (try simp only [within] at hb) <;> try (simp only [go_sem])) | refine And.intro (by first | exact trivial | omega | (simp only [I64]; omega)) ?_ | (simp only [go_sem])))
    refine vc_fx (fun i (s1 : σ) => ⟨[(11, .int .i64 i), (10, .int .i64 h.ms.length), (9, .lst false 3 (h.ms.map encM)), (0, .yld l)], HC s1⟩) h.ms.length (fun i s1 => runC st s (casesG h) = runC st s1 (caseF (h.ms.drop i) i) ∧ al s1) (st s (-1)).1 (.base (by (first | exact wk_same (by (simp only [go_sem, Int.natCast_add, cn, Int.cast_ofNat_Int])) | (refine wk_drop ?_ ?_ ?_ ?_ ?_ <;> (simp only [go_sem, Int.natCast_add, cn, Int.cast_ofNat_Int]))))) ⟨by simp [casesG, runC, hR], hgo _ _ hal hR⟩ ?_
    intro i s1 hi ⟨x1, x2⟩
    rcases Nat.lt_or_ge i h.ms.length with hlt | hge
    · obtain ⟨m, hm⟩ := get_of hlt
      have hlt' : (i : Int) < h.ms.length := by omega
      rw [drop_cons' hm, caseF] at x1
      by_cases hs : m.stops = 1
      · rw [if_pos hs] at x1
        (repeat' (first | ((with_reducible first | refine vcG_split ?_ ?_ | refine vcIf_split ?_ ?_ | refine vcQ_split ?_ ?_ | refine vcDG_split ?_ ?_) <;> intro hb <;> (try rw [hb]) <;> (try simp only [bq, bz, dtrue, dfalse] at hb) <;> (try simp only [within] at hb) <;> try (simp only [go_sem, hlt', hm, encM, hlen, ga1, ga2, sa2, hs, List.length_append])) | refine And.intro (by first | exact trivial | omega | (simp only [I64]; omega)) ?_ | (simp only [go_sem, hlt', hm, encM, hlen, ga1, ga2, sa2, hs, List.length_append])))
        refine vcY_is (hy s1 i _ x2 (.inr ⟨m, by simp only [encM, hs]⟩)) ?_
        cases hR2 : (st s1 i).2 with
        | false =>
          (repeat' (first | ((with_reducible first | refine vcG_split ?_ ?_ | refine vcIf_split ?_ ?_ | refine vcQ_split ?_ ?_ | refine vcDG_split ?_ ?_) <;> intro hb <;> (try rw [hb]) <;> (try simp only [bq, bz, dtrue, dfalse] at hb) <;> (try simp only [within] at hb) <;> try (simp only [go_sem])) | refine And.intro (by first | exact trivial | omega | (simp only [I64]; omega)) ?_ | (simp only [go_sem])))
          exact ⟨[.box 62 [.int .i64 m.ready, .int .i64 m.pace, .int .i64 1] false], by rw [x1]; simp [runC, hR2]⟩
        | true =>
          (repeat' (first | ((with_reducible first | refine vcG_split ?_ ?_ | refine vcIf_split ?_ ?_ | refine vcQ_split ?_ ?_ | refine vcDG_split ?_ ?_) <;> intro hb <;> (try rw [hb]) <;> (try simp only [bq, bz, dtrue, dfalse] at hb) <;> (try simp only [within] at hb) <;> try (simp only [go_sem])) | refine And.intro (by first | exact trivial | omega | (simp only [I64]; omega)) ?_ | (simp only [go_sem])))
          refine ⟨(st s1 i).1, hlt, .base ?_, ?_, hgo _ _ x2 hR2⟩
          · (first | exact wk_same (by (simp only [go_sem, Int.natCast_add, cn, Int.cast_ofNat_Int, pfx_app, hlen, hbel])) | (refine wk_drop ?_ ?_ ?_ ?_ ?_ <;> (simp only [go_sem, Int.natCast_add, cn, Int.cast_ofNat_Int, pfx_app, hlen, hbel])))
          · rw [x1]; simp only [List.cons_append, List.nil_append, runC, hR2, if_true]
      · rw [if_neg hs, List.nil_append] at x1
        (repeat' (first | ((with_reducible first | refine vcG_split ?_ ?_ | refine vcIf_split ?_ ?_ | refine vcQ_split ?_ ?_ | refine vcDG_split ?_ ?_) <;> intro hb <;> (try rw [hb]) <;> (try simp only [bq, bz, dtrue, dfalse] at hb) <;> (try simp only [within] at hb) <;> try (simp only [go_sem, hlt', hm, encM, hlen, ga1, ga2, sa2, hs, List.length_append])) | refine And.intro (by first | exact trivial | omega | (simp only [I64]; omega)) ?_ | (simp only [go_sem, hlt', hm, encM, hlen, ga1, ga2, sa2, hs, List.length_append])))
        refine ⟨s1, hlt, .base ?_, x1, x2⟩
        (first | exact wk_same (by (simp only [go_sem, Int.natCast_add, cn, Int.cast_ofNat_Int, pfx_app, hlen, hbel])) | (refine wk_drop ?_ ?_ ?_ ?_ ?_ <;> (simp only [go_sem, Int.natCast_add, cn, Int.cast_ofNat_Int, pfx_app, hlen, hbel])))
    · have hge' : ¬ (i : Int) < h.ms.length := by omega
      have : i = h.ms.length := by omega
      subst this
      (repeat' (first | ((with_reducible first | refine vcG_split ?_ ?_ | refine vcIf_split ?_ ?_ | refine vcQ_split ?_ ?_ | refine vcDG_split ?_ ?_) <;> intro hb <;> (try rw [hb]) <;> (try simp only [bq, bz, dtrue, dfalse] at hb) <;> (try simp only [within] at hb) <;> try (simp only [go_sem, hge'])) | refine And.intro (by first | exact trivial | omega | (simp only [I64]; omega)) ?_ | (simp only [go_sem, hge'])))
      rw [x1, List.drop_length]
      exact ⟨[], by simp [caseF, runC]⟩
end Go.Proofs.Ytoadkchhimojlaa

