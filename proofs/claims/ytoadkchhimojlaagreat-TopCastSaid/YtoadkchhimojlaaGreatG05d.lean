/- Contracts of functions of the given program, without a condition beyond those that each theorem states; they lead to the given statement. -/
import Derived.Test.YtoadkchhimojlaaGreatG05c
set_option linter.unusedSimpArgs false
set_option linter.unusedVariables false
set_option maxRecDepth 100000
namespace Go.Proofs.YtoadkchhimojlaaGreat
open Go Go.Fl
open Classical
def sG05d_f42_1 : List (Nat × Nat) := [(0, 0), (0, 0), (0, 0), (0, 0), (0, 0), (0, 0), (0, 1), (0, 0), (0, 0), (1, 1)]
def sG05d_f42_4 : List (Nat × Nat) := [(0, 0), (0, 0), (0, 0), (0, 0), (0, 0), (0, 0), (0, 0), (0, 1), (0, 0), (0, 0), (1, 1)]
def minB (K : List (List Int)) (s : List Int) : Bool := K.all fun t => decide (s = t) || !decide (misS s t = zer12)
theorem minB_iff {K : List (List Int)} {s : List Int} : minB K s = true ↔ isMin K s := by
  unfold minB isMin
  rw [List.all_eq_true]
  simp
def canC (a : Hall) (c : Int) : List (List Int) := (keysF (foundN a c)).filter fun s => minB (keysF (foundN a c)) s
def canL (a : Hall) : List (List (List Int)) := (casesL a).map (canC a)
theorem canC_good (a : Hall) (c : Int) : goodN (keysF (foundN a c)) (canC a c) := fun s => by
  unfold canC; rw [List.mem_filter, minB_iff]
theorem canC_alt (a : Hall) (c : Int) : canC a c ∈ altN a c :=
  mem_altN.2 ⟨⟨by unfold canC; exact Nat.le_trans (List.length_filter_le _ _) (by simp [keysF]), fun s hs => (List.mem_filter.1 hs).1⟩, canC_good a c⟩
theorem fit_can (a : Hall) : ∀ cs : List Int, fitL a cs (cs.map (canC a))
  | [] => trivial
  | c :: cs => ⟨canC_alt a c, fit_can a cs⟩
theorem fit_same {a : Hall} : ∀ {cs : List Int} {ls : List (List (List Int))}, fitL a cs ls → sameL ls (cs.map (canC a))
  | [], [], _ => trivial
  | [], _ :: _, h => h.elim
  | _ :: _, [], h => h.elim
  | c :: cs, l :: ls, ⟨h1, h2⟩ => ⟨fun t => by rw [(mem_altN.1 h1).2 t, canC_good a c t], fit_same h2⟩
theorem few_can {a : Hall} (ha : okH a) (h3 : a.hs.bs.length ≤ 3) {ls : List (List (List Int))} (h : fitL a (casesL a) ls) : fewL ls zer12 = fewL (canL a) zer12 :=
  fewL_same (ok_len12 fun c hc t ht => (fitL_ok ha h3 h c hc).2 t ht) (ok_len12 fun c hc t ht => (fitL_ok ha h3 (fit_can a _) c hc).2 t ht) rfl (fit_same h)
theorem can_ok {a : Hall} (ha : okH a) (h3 : a.hs.bs.length ≤ 3) : ∀ s, fewL (canL a) zer12 = some s → okS s 3 := fun s hs =>
  fewL_ok (okS.zero.mono (by omega)) (fun c hc t ht => (fitL_ok ha h3 (fit_can a _) c hc).2 t ht) hs
theorem c23 (a : Hall) (ha : okH a) : PC Tryz.prog 23 [hH a, .bool true] (.tup [hH a, .int .i64 0]) := by
  have h43 := c43 a
  rw [show checkH a = 0 from checkH0 ▸ ha] at h43
  refine PC.body Tryz.func23 (by kernel_rfl) rfl (by simp [Tryz.f23]) rfl ?_
  simp only [Tryz.f23]
  intro hlen
  simp only [go_sem, List.length_map, and_true, true_and] at hlen
  refine CV.run ?_
  (repeat' (first | ((with_reducible first | refine vcG_split ?_ ?_ | refine vcIf_split ?_ ?_ | refine vcQ_split ?_ ?_ | refine vcDG_split ?_ ?_) <;> intro hb <;> (try rw [hb]) <;> (try simp only [bq, bz, dtrue, dfalse] at hb) <;> (try simp only [within] at hb) <;> try (simp only [go_sem])) | refine And.intro (by first | exact trivial | omega | (simp only [I64]; omega)) ?_ | ((with_reducible first | refine vp h43 ?_ ?_); focus (first | exact ⟨rfl, .inl ⟨by first | rfl | simp only [go_sem, AV.pureL, AV.pure], by first | (simp only [go_sem]; done) | rfl⟩⟩ | exact ⟨rfl, .inr ⟨rfl, by simp only [go_sem]⟩⟩)) | (simp only [go_sem])))
def setR (x : Option (List Int)) : AV := match x with
  | none => .tup [.nilS, .int .i64 3]
  | some s => .tup [.lst false 3 ((setTo s 12).map encS), .int .i64 0]
theorem setR_pure (x : Option (List Int)) : (setR x).pure = true := by cases x <;> rfl
def numR (x : Option (List Int)) : AV := match x with
  | none => .tup [.int .i64 0, .int .i64 3]
  | some s => .tup [.int .i64 s.sum, .int .i64 0]
theorem numR_pure (x : Option (List Int)) : (numR x).pure = true := by cases x <;> rfl
theorem h24 {a : Hall} (ha : okH a) (h3 : a.hs.bs.length ≤ 3) {ls : List (List (List Int))} (h : fitL a (casesL a) ls) : PC Tryz.prog 24 [.agg (zer12.map I), lKK ls] (.tup [.agg (((fewL (canL a) zer12).getD zer12).map I), .bool (fewL (canL a) zer12).isSome]) := by
  have := c24 ls zer12 (okS.zero.mono (by omega)) (fun c hc t ht => (fitL_ok ha h3 h c hc).2 t ht) fun c hc => (fitL_ok ha h3 h c hc).1
  unfold fewR at this
  rw [few_can ha h3 h] at this
  exact this
set_option maxHeartbeats 2000000 in
theorem c8 (a : Hall) (ha : okH a) (h3 : a.hs.bs.length ≤ 3) : PC Tryz.prog 8 [hH a] (setR (fewL (canL a) zer12)) := by
  have h23 := c23 a ha
  have h25 := c25 a ha h3
  have hok := can_ok ha h3
  refine PC.body Tryz.func8 (by kernel_rfl) rfl (by simp [Tryz.f8]) (setR_pure _) ?_
  simp only [Tryz.f8]
  intro hlen
  simp only [go_sem, List.length_map, and_true, true_and] at hlen
  refine CV.run ?_
  (repeat' (first | ((with_reducible first | refine vcG_split ?_ ?_ | refine vcIf_split ?_ ?_ | refine vcQ_split ?_ ?_ | refine vcDG_split ?_ ?_) <;> intro hb <;> (try rw [hb]) <;> (try simp only [bq, bz, dtrue, dfalse] at hb) <;> (try simp only [within] at hb) <;> try (simp only [go_sem])) | refine And.intro (by first | exact trivial | omega | (simp only [I64]; omega)) ?_ | ((with_reducible first | refine vp h23 ?_ ?_); focus (first | exact ⟨rfl, .inl ⟨by first | rfl | simp only [go_sem, AV.pureL, AV.pure], by first | (simp only [go_sem]; done) | rfl⟩⟩ | exact ⟨rfl, .inr ⟨rfl, by simp only [go_sem]⟩⟩)) | (simp only [go_sem])))
  refine vcP_alt h25 (by (simp only [go_sem])) (by (simp only [go_sem])) ?_
  intro v hv
  obtain ⟨ls, hls, rfl⟩ := List.mem_map.1 hv
  have h24 := h24 ha h3 (mem_altsL.1 hls)
  rw [zer12_I] at h24
  generalize fewL (canL a) zer12 = N at *
  (repeat' (first | ((with_reducible first | refine vcG_split ?_ ?_ | refine vcIf_split ?_ ?_ | refine vcQ_split ?_ ?_ | refine vcDG_split ?_ ?_) <;> intro hb <;> (try rw [hb]) <;> (try simp only [bq, bz, dtrue, dfalse] at hb) <;> (try simp only [within] at hb) <;> try (simp only [go_sem])) | refine And.intro (by first | exact trivial | omega | (simp only [I64]; omega)) ?_ | (simp only [go_sem])))
  refine vcP_pure h24 (by simp [AV.pure, AV.pureL, pureL_mapI]) (by (simp only [go_sem])) (by (simp only [go_sem])) ?_
  cases N with
  | none =>
    (repeat' (first | ((with_reducible first | refine vcG_split ?_ ?_ | refine vcIf_split ?_ ?_ | refine vcQ_split ?_ ?_ | refine vcDG_split ?_ ?_) <;> intro hb <;> (try rw [hb]) <;> (try simp only [bq, bz, dtrue, dfalse] at hb) <;> (try simp only [within] at hb) <;> try (simp only [go_sem, Option.getD_none, Option.isSome_none, zer12_I, setR])) | refine And.intro (by first | exact trivial | omega | (simp only [I64]; omega)) ?_ | (simp only [go_sem, Option.getD_none, Option.isSome_none, zer12_I, setR])))
  | some s =>
    have hs := hok s rfl
    have h26 := c26 s hs.1
    (repeat' (first | ((with_reducible first | refine vcG_split ?_ ?_ | refine vcIf_split ?_ ?_ | refine vcQ_split ?_ ?_ | refine vcDG_split ?_ ?_) <;> intro hb <;> (try rw [hb]) <;> (try simp only [bq, bz, dtrue, dfalse] at hb) <;> (try simp only [within] at hb) <;> try (simp only [go_sem, Option.getD_some, Option.isSome_some, allOne_mapI, tk12 hs.1, dr12 hs.1, hs.1, List.length_map, List.append_nil])) | refine And.intro (by first | exact trivial | omega | (simp only [I64]; omega)) ?_ | (simp only [go_sem, Option.getD_some, Option.isSome_some, allOne_mapI, tk12 hs.1, dr12 hs.1, hs.1, List.length_map, List.append_nil])))
    refine vcP_pure h26 rfl (by (simp only [go_sem, pureL_mapI])) (by (simp only [go_sem, frzL_mapI])) ?_
    (repeat' (first | ((with_reducible first | refine vcG_split ?_ ?_ | refine vcIf_split ?_ ?_ | refine vcQ_split ?_ ?_ | refine vcDG_split ?_ ?_) <;> intro hb <;> (try rw [hb]) <;> (try simp only [bq, bz, dtrue, dfalse] at hb) <;> (try simp only [within] at hb) <;> try (simp only [go_sem, setR])) | refine And.intro (by first | exact trivial | omega | (simp only [I64]; omega)) ?_ | (simp only [go_sem, setR])))
theorem canL_ne (a : Hall) : (altsL a (casesL a)).map lKK ≠ [] := List.ne_nil_of_mem (List.mem_map.2 ⟨_, mem_altsL.2 (fit_can a _), rfl⟩)
set_option maxHeartbeats 2000000 in
theorem c42 (a : Hall) (ha : okH a) (h3 : a.hs.bs.length ≤ 3) : PC Tryz.prog 42 [hH a, .nilS] (numR (fewL (canL a) zer12)) := by
  have h23 := c23 a ha
  have h25 := c25 a ha h3
  have hok := can_ok ha h3
  have h24 : PC Tryz.prog 24 [.agg (zer12.map I), .alt ((altsL a (casesL a)).map lKK)] _ := PC.altArg [.agg (zer12.map I)] [] (canL_ne a) fun u hu => by
    obtain ⟨ls, hls, rfl⟩ := List.mem_map.1 hu
    exact h24 ha h3 (mem_altsL.1 hls)
  have h56 := c56n
  have h46 := c46 zer12 rfl (by decide)
  rw [zer12_I] at h24 h56 h46
  rw [show zer12.sum = 0 from rfl] at h46
  generalize fewL (canL a) zer12 = N at *
  refine PC.body Tryz.func42 (by kernel_rfl) rfl (by simp [Tryz.f42]) (numR_pure _) ?_
  simp only [Tryz.f42]
  intro hlen
  simp only [go_sem, List.length_map, and_true, true_and] at hlen
  refine CV.run ?_
  (repeat' (first | ((with_reducible first | refine vcG_split ?_ ?_ | refine vcIf_split ?_ ?_ | refine vcQ_split ?_ ?_ | refine vcDG_split ?_ ?_) <;> intro hb <;> (try rw [hb]) <;> (try simp only [bq, bz, dtrue, dfalse] at hb) <;> (try simp only [within] at hb) <;> try (simp only [go_sem])) | refine And.intro (by first | exact trivial | omega | (simp only [I64]; omega)) ?_ | (with_reducible rw [vc_draw_eq]; first | (refine CV.draw (id := 1) sG05d_f42_1 mixed rfl (by kernel_rfl) ?_; delta sG05d_f42_1) | (refine CV.draw (id := 4) sG05d_f42_4 mixed rfl (by kernel_rfl) ?_; delta sG05d_f42_4)) | ((with_reducible first | refine vp c55n ?_ ?_ | refine dc c55n ?_ ?_ | refine vp h23 ?_ ?_ | refine dc h23 ?_ ?_); focus (first | exact ⟨rfl, .inl ⟨by first | rfl | simp only [go_sem, AV.pureL, AV.pure], by first | (simp only [go_sem]; done) | rfl⟩⟩ | exact ⟨rfl, .inr ⟨rfl, by simp only [go_sem]⟩⟩)) | ((with_reducible first | refine dp c55n ?_ ?_ | refine dp h23 ?_ ?_); focus exact ⟨rfl, by first | rfl | simp only [go_sem, AV.pureL, AV.pure], by first | (simp only [go_sem]; done) | rfl⟩) | ((with_reducible first | refine ds c55n ?_ ?_ | refine ds h23 ?_ ?_); focus exact ⟨rfl, rfl⟩) | (simp only [go_sem])))
  refine dp h56 ⟨rfl, rfl, by (simp only [go_sem])⟩ ?_
  (repeat' (first | ((with_reducible first | refine vcG_split ?_ ?_ | refine vcIf_split ?_ ?_ | refine vcQ_split ?_ ?_ | refine vcDG_split ?_ ?_) <;> intro hb <;> (try rw [hb]) <;> (try simp only [bq, bz, dtrue, dfalse] at hb) <;> (try simp only [within] at hb) <;> try (simp only [go_sem])) | refine And.intro (by first | exact trivial | omega | (simp only [I64]; omega)) ?_ | (with_reducible rw [vc_draw_eq]; first | (refine CV.draw (id := 1) sG05d_f42_1 mixed rfl (by kernel_rfl) ?_; delta sG05d_f42_1) | (refine CV.draw (id := 4) sG05d_f42_4 mixed rfl (by kernel_rfl) ?_; delta sG05d_f42_4)) | (simp only [go_sem])))
  refine dp h25 ⟨rfl, rfl, by (simp only [go_sem])⟩ ?_
  (repeat' (first | ((with_reducible first | refine vcG_split ?_ ?_ | refine vcIf_split ?_ ?_ | refine vcQ_split ?_ ?_ | refine vcDG_split ?_ ?_) <;> intro hb <;> (try rw [hb]) <;> (try simp only [bq, bz, dtrue, dfalse] at hb) <;> (try simp only [within] at hb) <;> try (simp only [go_sem])) | refine And.intro (by first | exact trivial | omega | (simp only [I64]; omega)) ?_ | (with_reducible rw [vc_draw_eq]; first | (refine CV.draw (id := 1) sG05d_f42_1 mixed rfl (by kernel_rfl) ?_; delta sG05d_f42_1) | (refine CV.draw (id := 4) sG05d_f42_4 mixed rfl (by kernel_rfl) ?_; delta sG05d_f42_4)) | (simp only [go_sem])))
  refine dp h24 ⟨by simp [AV.pure, AV.pureL, pureL_mapI], rfl, by (simp only [go_sem])⟩ ?_
  cases N with
  | none =>
    (repeat' (first | ((with_reducible first | refine vcG_split ?_ ?_ | refine vcIf_split ?_ ?_ | refine vcQ_split ?_ ?_ | refine vcDG_split ?_ ?_) <;> intro hb <;> (try rw [hb]) <;> (try simp only [bq, bz, dtrue, dfalse] at hb) <;> (try simp only [within] at hb) <;> try (simp only [go_sem, Option.getD_none, Option.isSome_none, zer12_I, numR])) | refine And.intro (by first | exact trivial | omega | (simp only [I64]; omega)) ?_ | (with_reducible rw [vc_draw_eq]; first | (refine CV.draw (id := 1) sG05d_f42_1 mixed rfl (by kernel_rfl) ?_; delta sG05d_f42_1) | (refine CV.draw (id := 4) sG05d_f42_4 mixed rfl (by kernel_rfl) ?_; delta sG05d_f42_4)) | (simp only [go_sem, Option.getD_none, Option.isSome_none, zer12_I, numR])))
  | some s =>
    have hs := hok s rfl
    have hsum := hs.sum
    have h46s := c46 s hs.1 hs.bd
    (repeat' (first | ((with_reducible first | refine vcG_split ?_ ?_ | refine vcIf_split ?_ ?_ | refine vcQ_split ?_ ?_ | refine vcDG_split ?_ ?_) <;> intro hb <;> (try rw [hb]) <;> (try simp only [bq, bz, dtrue, dfalse] at hb) <;> (try simp only [within] at hb) <;> try (simp only [go_sem, Option.getD_some, Option.isSome_some, allOne_mapI, tk12 hs.1, dr12 hs.1, hs.1, List.length_map, List.append_nil])) | refine And.intro (by first | exact trivial | omega | (simp only [I64]; omega)) ?_ | (with_reducible rw [vc_draw_eq]; first | (refine CV.draw (id := 1) sG05d_f42_1 mixed rfl (by kernel_rfl) ?_; delta sG05d_f42_1) | (refine CV.draw (id := 4) sG05d_f42_4 mixed rfl (by kernel_rfl) ?_; delta sG05d_f42_4)) | (simp only [go_sem, Option.getD_some, Option.isSome_some, allOne_mapI, tk12 hs.1, dr12 hs.1, hs.1, List.length_map, List.append_nil])))
    refine vcP_pure h46s rfl (by (simp only [go_sem, pureL_mapI])) (by (simp only [go_sem, frzL_mapI])) ?_
    (repeat' (first | ((with_reducible first | refine vcG_split ?_ ?_ | refine vcIf_split ?_ ?_ | refine vcQ_split ?_ ?_ | refine vcDG_split ?_ ?_) <;> intro hb <;> (try rw [hb]) <;> (try simp only [bq, bz, dtrue, dfalse] at hb) <;> (try simp only [within] at hb) <;> try (simp only [go_sem])) | refine And.intro (by first | exact trivial | omega | (simp only [I64]; omega)) ?_ | (with_reducible rw [vc_draw_eq]; first | (refine CV.draw (id := 1) sG05d_f42_1 mixed rfl (by kernel_rfl) ?_; delta sG05d_f42_1) | (refine CV.draw (id := 4) sG05d_f42_4 mixed rfl (by kernel_rfl) ?_; delta sG05d_f42_4)) | (simp only [go_sem])))
    refine vcP_pure h56 rfl rfl (by (simp only [go_sem])) ?_
    (repeat' (first | ((with_reducible first | refine vcG_split ?_ ?_ | refine vcIf_split ?_ ?_ | refine vcQ_split ?_ ?_ | refine vcDG_split ?_ ?_) <;> intro hb <;> (try rw [hb]) <;> (try simp only [bq, bz, dtrue, dfalse] at hb) <;> (try simp only [within] at hb) <;> try (simp only [go_sem])) | refine And.intro (by first | exact trivial | omega | (simp only [I64]; omega)) ?_ | (with_reducible rw [vc_draw_eq]; first | (refine CV.draw (id := 1) sG05d_f42_1 mixed rfl (by kernel_rfl) ?_; delta sG05d_f42_1) | (refine CV.draw (id := 4) sG05d_f42_4 mixed rfl (by kernel_rfl) ?_; delta sG05d_f42_4)) | (simp only [go_sem])))
    refine vcP_pure h46 rfl rfl (by (simp only [go_sem])) ?_
    (repeat' (first | ((with_reducible first | refine vcG_split ?_ ?_ | refine vcIf_split ?_ ?_ | refine vcQ_split ?_ ?_ | refine vcDG_split ?_ ?_) <;> intro hb <;> (try rw [hb]) <;> (try simp only [bq, bz, dtrue, dfalse] at hb) <;> (try simp only [within] at hb) <;> try (simp only [go_sem, numR, Int.sub_zero])) | refine And.intro (by first | exact trivial | omega | (simp only [I64]; omega)) ?_ | (with_reducible rw [vc_draw_eq]; first | (refine CV.draw (id := 1) sG05d_f42_1 mixed rfl (by kernel_rfl) ?_; delta sG05d_f42_1) | (refine CV.draw (id := 4) sG05d_f42_4 mixed rfl (by kernel_rfl) ?_; delta sG05d_f42_4)) | (simp only [go_sem, numR, Int.sub_zero])))
    omega
theorem c21 (a : Hall) (ha : okH a) (h3 : a.hs.bs.length ≤ 3) : PC Tryz.prog 21 [hH a] (numR (fewL (canL a) zer12)) := by
  have h42 := c42 a ha h3
  generalize fewL (canL a) zer12 = N at *
  refine PC.body Tryz.func21 (by kernel_rfl) rfl (by simp [Tryz.f21]) (numR_pure _) ?_
  simp only [Tryz.f21]
  intro hlen
  simp only [go_sem, List.length_map, and_true, true_and] at hlen
  refine CV.run ?_
  (repeat' (first | ((with_reducible first | refine vcG_split ?_ ?_ | refine vcIf_split ?_ ?_ | refine vcQ_split ?_ ?_ | refine vcDG_split ?_ ?_) <;> intro hb <;> (try rw [hb]) <;> (try simp only [bq, bz, dtrue, dfalse] at hb) <;> (try simp only [within] at hb) <;> try (simp only [go_sem])) | refine And.intro (by first | exact trivial | omega | (simp only [I64]; omega)) ?_ | (simp only [go_sem])))
  refine vcP_pure h42 (numR_pure _) rfl (by (simp only [go_sem])) ?_
  cases N with
  | none => (repeat' (first | ((with_reducible first | refine vcG_split ?_ ?_ | refine vcIf_split ?_ ?_ | refine vcQ_split ?_ ?_ | refine vcDG_split ?_ ?_) <;> intro hb <;> (try rw [hb]) <;> (try simp only [bq, bz, dtrue, dfalse] at hb) <;> (try simp only [within] at hb) <;> try (simp only [go_sem, numR])) | refine And.intro (by first | exact trivial | omega | (simp only [I64]; omega)) ?_ | (simp only [go_sem, numR])))
  | some s => (repeat' (first | ((with_reducible first | refine vcG_split ?_ ?_ | refine vcIf_split ?_ ?_ | refine vcQ_split ?_ ?_ | refine vcDG_split ?_ ?_) <;> intro hb <;> (try rw [hb]) <;> (try simp only [bq, bz, dtrue, dfalse] at hb) <;> (try simp only [within] at hb) <;> try (simp only [go_sem, numR])) | refine And.intro (by first | exact trivial | omega | (simp only [I64]; omega)) ?_ | (simp only [go_sem, numR])))
end Go.Proofs.YtoadkchhimojlaaGreat

