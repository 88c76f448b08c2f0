/- Contracts of functions of the given program, without a condition beyond those that each theorem states; they lead to the given statement. -/
import Derived.Test.YtoadkchhimojlaaGreatG05b
set_option linter.unusedSimpArgs false
set_option linter.unusedVariables false
set_option maxRecDepth 100000
namespace Go.Proofs.YtoadkchhimojlaaGreat
open Go Go.Fl
open Classical
def casesT (ms : List Mach) : Nat → List Int
  | 0 => [-1]
  | j + 1 => casesT ms j ++ (if ((ms[j]?).map fun m => m.stops) = some 1 then [(j : Int)] else [])
def casesL (a : Hall) : List Int := casesT a.hs.ms a.hs.ms.length
theorem casesT_len (ms : List Mach) : ∀ j, (casesT ms j).length ≤ j + 1
  | 0 => by simp [casesT]
  | j + 1 => by have := casesT_len ms j; rw [casesT, List.length_append]; split <;> simp <;> omega
set_option maxHeartbeats 2000000 in
theorem c48 (a : Hall) (ha : okH a) : PC Tryz.prog 48 [hH a] (lN (casesL a)) := by
  have hm3 := ha.1.2.1
  refine PC.body Tryz.func48 (by kernel_rfl) rfl (by simp [Tryz.f48]) rfl ?_
  simp only [Tryz.f48]
  intro hlen
  simp only [go_sem, List.length_map, and_true, true_and] at hlen
  refine CV.run ?_
  (repeat' (first | ((with_reducible first | refine vcG_split ?_ ?_ | refine vcIf_split ?_ ?_ | refine vcQ_split ?_ ?_ | refine vcDG_split ?_ ?_) <;> intro hb <;> (try rw [hb]) <;> (try simp only [bq, bz, dtrue, dfalse] at hb) <;> (try simp only [within] at hb) <;> try (simp only [go_sem])) | refine And.intro (by first | exact trivial | omega | (simp only [I64]; omega)) ?_ | (simp only [go_sem])))
  refine vc_fx (fun j (b : Option Mach) => ⟨[(12, .int .i64 j), (11, .int .i64 a.hs.ms.length), (10, .lst false 3 (a.hs.ms.map encM)), (3, match b with | some _ => .row 2 (casesT a.hs.ms j).length | none => .lst true 1 ((casesT a.hs.ms j).map encN)), (2, .nilS)], .box 64 (cH a) false :: (match b with | some m => [.box 93 (encM m) false, .row 3 1 ((casesT a.hs.ms j).map encN) false] | none => [])⟩) a.hs.ms.length (fun _ _ => True) none (.base (by (first | exact wk_same (by (simp only [go_sem, Int.natCast_add, cn, Int.cast_ofNat_Int, casesT, encN, List.map_cons, List.map_nil])) | (refine wk_drop ?_ ?_ ?_ ?_ ?_ <;> (simp only [go_sem, Int.natCast_add, cn, Int.cast_ofNat_Int, casesT, encN, List.map_cons, List.map_nil]))))) trivial ?_
  intro j b hj _
  have hl := casesT_len a.hs.ms j
  rcases Nat.lt_or_ge j a.hs.ms.length with hlt | hge
  · obtain ⟨m, hm⟩ := get_of hlt
    have hlt' : (j : Int) < a.hs.ms.length := by omega
    by_cases hst : m.stops = 1
    · have e : casesT a.hs.ms (j + 1) = casesT a.hs.ms j ++ [(j : Int)] := by rw [casesT, hm, if_pos (by simp [hst])]
      cases b with
      | none =>
        (repeat' (first | ((with_reducible first | refine vcG_split ?_ ?_ | refine vcIf_split ?_ ?_ | refine vcQ_split ?_ ?_ | refine vcDG_split ?_ ?_) <;> intro hb <;> (try rw [hb]) <;> (try simp only [bq, bz, dtrue, dfalse] at hb) <;> (try simp only [within] at hb) <;> try (simp only [go_sem, hlt', hm, hst, encM, List.length_map])) | refine And.intro (by first | exact trivial | omega | (simp only [I64]; omega)) ?_ | (simp only [go_sem, hlt', hm, hst, encM, List.length_map])))
        refine ⟨⟨by omega, by omega, .inr (by simp)⟩, by unfold I64; omega, some m, hlt, .base (by (first | exact wk_same (by (simp only [go_sem, Int.natCast_add, cn, Int.cast_ofNat_Int, e, encM, hst, encN, List.map_append, List.length_append])) | (refine wk_drop ?_ ?_ ?_ ?_ ?_ <;> (simp only [go_sem, Int.natCast_add, cn, Int.cast_ofNat_Int, e, encM, hst, encN, List.map_append, List.length_append]))))⟩
      | some m0 =>
        (repeat' (first | ((with_reducible first | refine vcG_split ?_ ?_ | refine vcIf_split ?_ ?_ | refine vcQ_split ?_ ?_ | refine vcDG_split ?_ ?_) <;> intro hb <;> (try rw [hb]) <;> (try simp only [bq, bz, dtrue, dfalse] at hb) <;> (try simp only [within] at hb) <;> try (simp only [go_sem, hlt', hm, hst, encM, List.length_map])) | refine And.intro (by first | exact trivial | omega | (simp only [I64]; omega)) ?_ | (simp only [go_sem, hlt', hm, hst, encM, List.length_map])))
        refine ⟨some m0, hlt, .base (by (first | exact wk_same (by (simp only [go_sem, Int.natCast_add, cn, Int.cast_ofNat_Int, e, encM, encN, List.map_append, List.length_append])) | (refine wk_drop ?_ ?_ ?_ ?_ ?_ <;> (simp only [go_sem, Int.natCast_add, cn, Int.cast_ofNat_Int, e, encM, encN, List.map_append, List.length_append]))))⟩
    · have e : casesT a.hs.ms (j + 1) = casesT a.hs.ms j := by rw [casesT, hm, if_neg (by simp [hst]), List.append_nil]
      cases b with
      | none =>
        (repeat' (first | ((with_reducible first | refine vcG_split ?_ ?_ | refine vcIf_split ?_ ?_ | refine vcQ_split ?_ ?_ | refine vcDG_split ?_ ?_) <;> intro hb <;> (try rw [hb]) <;> (try simp only [bq, bz, dtrue, dfalse] at hb) <;> (try simp only [within] at hb) <;> try (simp only [go_sem, hlt', hm, hst, encM, List.length_map])) | refine And.intro (by first | exact trivial | omega | (simp only [I64]; omega)) ?_ | (simp only [go_sem, hlt', hm, hst, encM, List.length_map])))
        refine ⟨none, hlt, .base (by (first | exact wk_same (by (simp only [go_sem, Int.natCast_add, cn, Int.cast_ofNat_Int, e])) | (refine wk_drop ?_ ?_ ?_ ?_ ?_ <;> (simp only [go_sem, Int.natCast_add, cn, Int.cast_ofNat_Int, e]))))⟩
      | some m0 =>
        (repeat' (first | ((with_reducible first | refine vcG_split ?_ ?_ | refine vcIf_split ?_ ?_ | refine vcQ_split ?_ ?_ | refine vcDG_split ?_ ?_) <;> intro hb <;> (try rw [hb]) <;> (try simp only [bq, bz, dtrue, dfalse] at hb) <;> (try simp only [within] at hb) <;> try (simp only [go_sem, hlt', hm, hst, encM, List.length_map])) | refine And.intro (by first | exact trivial | omega | (simp only [I64]; omega)) ?_ | (simp only [go_sem, hlt', hm, hst, encM, List.length_map])))
        refine ⟨some m0, hlt, .base (by (first | exact wk_same (by (simp only [go_sem, Int.natCast_add, cn, Int.cast_ofNat_Int, e, encM])) | (refine wk_drop ?_ ?_ ?_ ?_ ?_ <;> (simp only [go_sem, Int.natCast_add, cn, Int.cast_ofNat_Int, e, encM]))))⟩
  · have hge' : ¬ (j : Int) < a.hs.ms.length := by omega
    have : j = a.hs.ms.length := by omega
    subst this
    cases b with
    | none =>
      (repeat' (first | ((with_reducible first | refine vcG_split ?_ ?_ | refine vcIf_split ?_ ?_ | refine vcQ_split ?_ ?_ | refine vcDG_split ?_ ?_) <;> intro hb <;> (try rw [hb]) <;> (try simp only [bq, bz, dtrue, dfalse] at hb) <;> (try simp only [within] at hb) <;> try (simp only [go_sem, hge', casesL])) | refine And.intro (by first | exact trivial | omega | (simp only [I64]; omega)) ?_ | (simp only [go_sem, hge', casesL])))
    | some m0 =>
      (repeat' (first | ((with_reducible first | refine vcG_split ?_ ?_ | refine vcIf_split ?_ ?_ | refine vcQ_split ?_ ?_ | refine vcDG_split ?_ ?_) <;> intro hb <;> (try rw [hb]) <;> (try simp only [bq, bz, dtrue, dfalse] at hb) <;> (try simp only [within] at hb) <;> try (simp only [go_sem, hge', encM, List.length_map, frzE_self, pureN, casesL])) | refine And.intro (by first | exact trivial | omega | (simp only [I64]; omega)) ?_ | (simp only [go_sem, hge', encM, List.length_map, frzE_self, pureN, casesL])))
noncomputable def altsL (a : Hall) : List Int → List (List (List (List Int)))
  | [] => [[]]
  | c :: cs => (altN a c).flatMap fun l => (altsL a cs).map fun r => l :: r
def fitL (a : Hall) : List Int → List (List (List Int)) → Prop
  | [], [] => True
  | c :: cs, l :: ls => l ∈ altN a c ∧ fitL a cs ls
  | _, _ => False
theorem mem_altsL {a : Hall} : ∀ {cs : List Int} {ls : List (List (List Int))}, ls ∈ altsL a cs ↔ fitL a cs ls
  | [], [] => by simp [altsL, fitL]
  | [], _ :: _ => by simp [altsL, fitL]
  | c :: cs, [] => by simp [altsL, fitL]
  | c :: cs, l :: ls => by
    have ih := mem_altsL (a := a) (cs := cs) (ls := ls)
    simp only [altsL, fitL, List.mem_flatMap, List.mem_map]
    constructor
    · rintro ⟨x, h1, y, h2, h3⟩
      cases h3
      exact ⟨h1, ih.1 h2⟩
    · rintro ⟨h1, h2⟩
      exact ⟨l, h1, ls, ih.2 h2, rfl⟩
theorem fitL_snoc {a : Hall} {l : List (List Int)} {c : Int} (h : l ∈ altN a c) : ∀ {cs : List Int} {ls : List (List (List Int))}, fitL a cs ls → fitL a (cs ++ [c]) (ls ++ [l])
  | [], [], _ => ⟨h, trivial⟩
  | [], _ :: _, h => h.elim
  | _ :: _, [], h => h.elim
  | _ :: cs, _ :: ls, ⟨h1, h2⟩ => ⟨h1, fitL_snoc h h2⟩
theorem fitL_len {a : Hall} : ∀ {cs : List Int} {ls : List (List (List Int))}, fitL a cs ls → ls.length = cs.length
  | [], [], _ => rfl
  | [], _ :: _, h => h.elim
  | _ :: _, [], h => h.elim
  | _ :: cs, _ :: ls, ⟨_, h2⟩ => by simp [fitL_len h2]
theorem fitL_ok {a : Hall} (ha : okH a) (h3 : a.hs.bs.length ≤ 3) : ∀ {cs : List Int} {ls : List (List (List Int))}, fitL a cs ls → ∀ l, l ∈ ls → l.length ≤ 100000 ∧ ∀ t, t ∈ l → okS t 3
  | [], [], _, l, hl => by cases hl
  | [], _ :: _, h, _, _ => h.elim
  | _ :: _, [], h, _, _ => h.elim
  | c :: cs, x :: ls, ⟨h1, h2⟩, l, hl => by
    rcases List.mem_cons.1 hl with rfl | hl
    · obtain ⟨⟨q1, q2⟩, _⟩ := mem_altN.1 h1
      have p1 := foundN_len a c
      have p2 := plansG_len (stop := c) ha.1 h3
      refine ⟨by omega, fun t ht => ?_⟩
      obtain ⟨e, he, rfl⟩ := List.mem_map.1 (q2 t ht)
      exact (foundN_ok ha c e he).1
    · exact fitL_ok ha h3 h2 l hl
set_option maxHeartbeats 2000000 in
theorem c25 (a : Hall) (ha : okH a) (h3 : a.hs.bs.length ≤ 3) : PC Tryz.prog 25 [hH a] (.alt ((altsL a (casesL a)).map lKK)) := by
  have hcl : (casesL a).length ≤ 4 := by have := casesT_len a.hs.ms a.hs.ms.length; have := ha.1.2.1; unfold casesL; omega
  have h48 := c48 a ha
  refine PC.bodyA Tryz.func25 (by kernel_rfl) rfl (by simp [Tryz.f25]) ?_
  simp only [Tryz.f25]
  intro hlen
  simp only [go_sem, List.length_map, and_true, true_and] at hlen
  refine CV.run ?_
  (repeat' (first | ((with_reducible first | refine vcG_split ?_ ?_ | refine vcIf_split ?_ ?_ | refine vcQ_split ?_ ?_ | refine vcDG_split ?_ ?_) <;> intro hb <;> (try rw [hb]) <;> (try simp only [bq, bz, dtrue, dfalse] at hb) <;> (try simp only [within] at hb) <;> try (simp only [go_sem])) | refine And.intro (by first | exact trivial | omega | (simp only [I64]; omega)) ?_ | ((with_reducible first | refine vp h48 ?_ ?_); focus (first | exact ⟨rfl, .inl ⟨by first | rfl | simp only [go_sem, AV.pureL, AV.pure], by first | (simp only [go_sem]; done) | rfl⟩⟩ | exact ⟨rfl, .inr ⟨rfl, by simp only [go_sem]⟩⟩)) | (simp only [go_sem])))
  generalize casesL a = C at *
  refine vc_fx (fun j (x : List (List (List Int))) => ⟨[(8, .int .i64 j), (7, .int .i64 C.length), (6, lN C), (2, .row 1 x.length), (1, .lp 0 0)], [.box 64 (cH a) false, .row 98 1 (x.map encKK) false]⟩) C.length (fun j x => fitL a (C.take j) x) [] (.nilE 2 98 1 (by (simp only [go_sem])) (by omega) (.base (by (first | exact wk_same (by (simp only [go_sem, Int.natCast_add, cn, Int.cast_ofNat_Int])) | (refine wk_drop ?_ ?_ ?_ ?_ ?_ <;> (simp only [go_sem, Int.natCast_add, cn, Int.cast_ofNat_Int])))))) trivial ?_
  intro j x hj hx
  have hxl := fitL_len hx
  rw [List.length_take] at hxl
  rcases Nat.lt_or_ge j C.length with hlt | hge
  · obtain ⟨c, hc⟩ := get_of hlt
    have hlt' : (j : Int) < C.length := by omega
    have h49 := c49 a ha h3 c
    (repeat' (first | ((with_reducible first | refine vcG_split ?_ ?_ | refine vcIf_split ?_ ?_ | refine vcQ_split ?_ ?_ | refine vcDG_split ?_ ?_) <;> intro hb <;> (try rw [hb]) <;> (try simp only [bq, bz, dtrue, dfalse] at hb) <;> (try simp only [within] at hb) <;> try (simp only [go_sem, hlt', hc, encN])) | refine And.intro (by first | exact trivial | omega | (simp only [I64]; omega)) ?_ | (simp only [go_sem, hlt', hc, encN])))
    refine vcP_alt h49 (by (simp only [go_sem])) (by (simp only [go_sem])) ?_
    intro v hv
    obtain ⟨l, hl, rfl⟩ := List.mem_map.1 hv
    have hs := fitL_snoc hl hx
    rw [show C.take j ++ [c] = C.take (j + 1) by rw [List.take_add_one, hc]; rfl] at hs
    (repeat' (first | ((with_reducible first | refine vcG_split ?_ ?_ | refine vcIf_split ?_ ?_ | refine vcQ_split ?_ ?_ | refine vcDG_split ?_ ?_) <;> intro hb <;> (try rw [hb]) <;> (try simp only [bq, bz, dtrue, dfalse] at hb) <;> (try simp only [within] at hb) <;> try (simp only [go_sem, List.length_map])) | refine And.intro (by first | exact trivial | omega | (simp only [I64]; omega)) ?_ | (simp only [go_sem, List.length_map])))
    exact ⟨x ++ [l], hlt, .base (by (first | exact wk_same (by (simp only [go_sem, Int.natCast_add, cn, Int.cast_ofNat_Int, encKK, List.map_append, List.length_append])) | (refine wk_drop ?_ ?_ ?_ ?_ ?_ <;> (simp only [go_sem, Int.natCast_add, cn, Int.cast_ofNat_Int, encKK, List.map_append, List.length_append])))), hs⟩
  · have hge' : ¬ (j : Int) < C.length := by omega
    have : j = C.length := by omega
    subst this
    rw [List.take_length] at hx
    (repeat' (first | ((with_reducible first | refine vcG_split ?_ ?_ | refine vcIf_split ?_ ?_ | refine vcQ_split ?_ ?_ | refine vcDG_split ?_ ?_) <;> intro hb <;> (try rw [hb]) <;> (try simp only [bq, bz, dtrue, dfalse] at hb) <;> (try simp only [within] at hb) <;> try (simp only [go_sem, hge'])) | refine And.intro (by first | exact trivial | omega | (simp only [I64]; omega)) ?_ | (simp only [go_sem, hge'])))
    refine ⟨lKK x, List.mem_map.2 ⟨x, mem_altsL.2 hx, rfl⟩, ?_⟩
    (simp only [go_sem, pureKK, List.length_map])
end Go.Proofs.YtoadkchhimojlaaGreat

