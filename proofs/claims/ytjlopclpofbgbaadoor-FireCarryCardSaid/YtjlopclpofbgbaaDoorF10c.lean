/- Contracts of functions of the given program, without a condition beyond those that each theorem states; they lead to the given statement. -/
import Derived.Test.YtjlopclpofbgbaaDoorF10b
set_option linter.unusedSimpArgs false
set_option linter.unusedVariables false
set_option maxRecDepth 100000
namespace Go.Proofs.YtjlopclpofbgbaaDoor
open Go Go.Fl
open Classical
def okThings (ts : List Thing) : Prop := ∀ i t, ts[i]? = some t → okThing ts i t
theorem c48 (ts : List Thing) (ms : List Mark) (hv : okThings ts) (c : Int) : ∀ (n : Nat) (i : Int), 0 ≤ i → i < n → i < ts.length → ∀ at_ : Int, PC Tryd.prog 48 [hT ts ms, .int .i64 i, .int .i64 c, .int .i64 at_] (.bool (decide (hasOf ts ms c n i at_))) := by
  intro n
  induction n with
  | zero => intro i h0 h1; omega
  | succ n ih =>
    intro i h0 h1 h2 at_
    obtain ⟨t, ht⟩ := get_of (l := ts) (j := i.toNat) (by omega)
    have hok := hv _ _ ht
    have hof : hasOf ts ms c (n + 1) i at_ ↔ (t.at_ ≤ at_ ∧ ((∃ m, m ∈ ms ∧ m.change = c ∧ m.thing = i ∧ m.at_ ≤ at_) ∨ (t.of ≠ -1 ∧ hasOf ts ms c n t.of t.at_))) := by
      simp [hasOf, ht]
    have hrec : t.of ≠ -1 → PC Tryd.prog 48 [hT ts ms, .int .i64 t.of, .int .i64 c, .int .i64 t.at_] (.bool (decide (hasOf ts ms c n t.of t.at_))) := fun h => by
      have := hok.1
      unfold within at this
      exact ih t.of (by omega) (by omega) (by omega) t.at_
    refine PC.body Tryd.func48 (by kernel_rfl) rfl (by simp [Tryd.f48]) rfl ?_
    simp only [Tryd.f48]
    intro hlen
    simp only [go_sem, List.length_map, and_true, true_and] at hlen
    refine CV.run ?_
    (simp only [go_sem, ht, encT, encM])
    refine And.intro (by omega) ?_
    (repeat' (first | ((with_reducible first | apply sg | apply si | apply sq | apply sd) <;> intro hb <;> (try rw [hb]) <;> (try simp only [bq, bz, dtrue, dfalse] at hb) <;> (try simp only [within, Classical.not_not] at hb) <;> try simp only [go_sem]) | refine And.intro (by first | exact ⟨⟩ | omega | (simp only [I64]; omega)) ?_ | (simp only [go_sem, ht, encT])))
    · exact bf fun h => by have := hof.1 h; omega
    refine vc_for (fun j => ⟨[(10, .int .i64 j), (9, .lp 1 0), (8, .bool false), (4, .lp 0 0), (1, .int .i64 i), (2, .int .i64 c), (3, .int .i64 at_)], [.box 25 [.lst false 4 (ts.map encT), .lst false 3 (ms.map encM)] false, .box 68 [.int .i64 t.of, .int .i64 t.at_, .int .i64 t.cost, .int .i64 t.prints] false]⟩) ms.length (fun j => ∀ k m, k < j → ms[k]? = some m → ¬ (m.change = c ∧ m.thing = i ∧ m.at_ ≤ at_)) (by exact wk_any (by simp only [go_sem, Int.natCast_add, cn, Int.cast_ofNat_Int, hq])) (fun i t h => by omega) ?_
    intro j hj hx
    rcases Nat.lt_or_ge j ms.length with hlt | hge
    · obtain ⟨m, hm⟩ := get_of hlt
      have hlt' : (j : Int) < ms.length := by omega
      have hmm := List.mem_of_getElem? hm
      (repeat' (first | ((with_reducible first | apply sg | apply si | apply sq | apply sd) <;> intro hb <;> (try rw [hb]) <;> (try simp only [bq, bz, dtrue, dfalse] at hb) <;> (try simp only [within, Classical.not_not] at hb) <;> try simp only [go_sem]) | refine And.intro (by first | exact ⟨⟩ | omega | (simp only [I64]; omega)) ?_ | (simp only [go_sem, hlt', hm, encM])))
      all_goals first
        | exact bt (hof.2 ⟨by omega, .inl ⟨m, hmm, by omega⟩⟩)
        | (refine ⟨by exact wk_any (by simp only [go_sem, Int.natCast_add, cn, Int.cast_ofNat_Int, hq]), fun k m' hk hkm => ?_⟩
           rcases Nat.lt_or_ge k j with h2 | h2
           · exact hx k m' h2 hkm
           · have : k = j := by omega
             subst this
             rw [hm] at hkm; cases hkm; omega)
        | skip
    · have hge' : ¬ (j : Int) < ms.length := by omega
      have hno : ¬ ∃ m, m ∈ ms ∧ m.change = c ∧ m.thing = i ∧ m.at_ ≤ at_ := fun ⟨m, hm, h⟩ => by
        obtain ⟨k, hk⟩ := List.mem_iff_getElem?.1 hm
        exact hx k m (by have := (List.getElem?_eq_some_iff.1 hk).1; omega) hk h
      by_cases hq : t.of = -1
      · (repeat' (first | ((with_reducible first | apply sg | apply si | apply sq | apply sd) <;> intro hb <;> (try rw [hb]) <;> (try simp only [bq, bz, dtrue, dfalse] at hb) <;> (try simp only [within, Classical.not_not] at hb) <;> try simp only [go_sem]) | refine And.intro (by first | exact ⟨⟩ | omega | (simp only [I64]; omega)) ?_ | (simp only [go_sem, hge', hq])))
        exact bf fun h => (hof.1 h).2.elim hno fun h => h.1 hq
      · (repeat' (first | ((with_reducible first | apply sg | apply si | apply sq | apply sd) <;> intro hb <;> (try rw [hb]) <;> (try simp only [bq, bz, dtrue, dfalse] at hb) <;> (try simp only [within, Classical.not_not] at hb) <;> try simp only [go_sem]) | refine And.intro (by first | exact ⟨⟩ | omega | (simp only [I64]; omega)) ?_ | ((with_reducible first | refine vp (hrec hq) ?_ ?_); focus (first | (refine ⟨rfl, .inl ⟨?_, ?_⟩⟩ <;> first | rfl | (simp only [go_sem, hge', hq, AV.pureL, AV.pure]; done)) | (refine ⟨rfl, .inr ⟨rfl, ?_⟩⟩; simp only [go_sem, hge', hq]; done))) | (simp only [go_sem, hge', hq])))
        exact bd ⟨fun h => hof.2 ⟨by omega, .inr ⟨hq, h⟩⟩, fun h => ((hof.1 h).2.resolve_left hno).2⟩
def hasAt (ts : List Thing) (ms : List Mark) (c i at_ : Int) : Prop := hasOf ts ms c (i.toNat + 1) i at_
theorem cHas (ts : List Thing) (ms : List Mark) (hv : okThings ts) (c i at_ : Int) (h : 0 ≤ i ∧ i < ts.length) : PC Tryd.prog 48 [hT ts ms, .int .i64 i, .int .i64 c, .int .i64 at_] (.bool (decide (hasAt ts ms c i at_))) :=
  c48 ts ms hv c (i.toNat + 1) i h.1 (by omega) h.2 at_
theorem valid.things {ts : List Thing} {ms : List Mark} (h : valid ts ms) : okThings ts := h.2.2.1
noncomputable def askP (ts : List Thing) (ms : List Mark) (is : Prop) : Int := if valid ts ms then if is then 0 else 1 else 70
theorem askP_ok {ts : List Thing} {ms : List Mark} (h : valid ts ms) : askP ts ms True = 0 := by simp [askP, h]
theorem askP_0 {ts : List Thing} {ms : List Mark} {is : Prop} : askP ts ms is = 0 ↔ valid ts ms ∧ is := by
  unfold askP
  by_cases hv : valid ts ms <;> by_cases hi : is <;> simp [hv, hi]
theorem askP_congr {ts : List Thing} {ms : List Mark} {p q : Prop} (h : p ↔ q) : AV.int .i64 (askP ts ms p) = AV.int .i64 (askP ts ms q) := by rw [show p = q from propext h]
noncomputable def answer {α : Type} (ts : List Thing) (ms : List Mark) (is : Prop) (no : α) (x : α × Int) : α × Int := if valid ts ms ∧ is then x else (no, askP ts ms is)
theorem answer_yes {α : Type} {ts : List Thing} {ms : List Mark} {is : Prop} {no : α} {x : α × Int} (h : valid ts ms ∧ is) : answer ts ms is no x = x := by simp [answer, h]
theorem answer_no {α : Type} {ts : List Thing} {ms : List Mark} {is : Prop} {no : α} {x : α × Int} (h : ¬ (valid ts ms ∧ is)) : answer ts ms is no x = (no, askP ts ms is) := by simp only [answer, if_neg h]
end Go.Proofs.YtjlopclpofbgbaaDoor

