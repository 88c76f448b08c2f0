/- Contracts of functions of the given program, without a condition beyond those that each theorem states; they lead to the given statement. -/
import Derived.Test.YtjlopclpofbgbaaDoorF10l
set_option linter.unusedSimpArgs false
set_option linter.unusedVariables false
set_option maxRecDepth 100000
namespace Go.Proofs.YtjlopclpofbgbaaDoor
open Go Go.Fl
open Classical
def sF10m_f67_12 : List (Nat × Nat) := [(0, 0), (0, 0), (0, 0), (0, 0), (0, 0), (0, 0), (0, 0), (0, 0), (0, 0), (0, 0), (0, 0)]
def sF10m_f67_20 : List (Nat × Nat) := [(0, 0), (0, 0), (0, 0), (0, 0), (0, 0), (0, 0), (0, 0)]
def sF10m_f67_22 : List (Nat × Nat) := [(0, 0), (0, 0), (0, 0), (0, 0), (0, 0), (0, 0), (0, 0), (0, 0), (0, 0), (0, 0), (0, 0)]
def sF10m_f67_23 : List (Nat × Nat) := [(0, 1), (0, 0), (0, 0), (0, 0), (0, 0), (0, 0), (0, 0), (0, 0), (1, 1), (1, 1), (0, 0)]
noncomputable def msk (p : Nat → Prop) : Nat → Int
  | 0 => 0
  | k + 1 => msk p k + if p k then 2 ^ k else 0
theorem msk_bnd (p : Nat → Prop) : ∀ k, 0 ≤ msk p k ∧ msk p k < 2 ^ k
  | 0 => by simp [msk]
  | k + 1 => by
    have := msk_bnd p k
    have h2 : (2 : Int) ^ (k + 1) = 2 ^ k + 2 ^ k := by rw [Int.pow_succ]; omega
    simp only [msk, h2]
    split <;> omega
theorem msk_congr {p q : Nat → Prop} : ∀ k, (∀ c, c < k → (p c ↔ q c)) → msk p k = msk q k
  | 0, _ => rfl
  | k + 1, h => by
    rw [msk, msk, msk_congr k fun c hc => h c (by omega)]
    by_cases hp : p k
    · rw [if_pos hp, if_pos ((h k (by omega)).1 hp)]
    · rw [if_neg hp, if_neg fun hq => hp ((h k (by omega)).2 hq)]
theorem msk_no {p : Nat → Prop} : ∀ k, (∀ c, c < k → ¬ p c) → msk p k = 0
  | 0, _ => rfl
  | k + 1, h => by rw [msk, msk_no k fun c hc => h c (by omega), if_neg (h k (by omega))]; rfl
theorem msk3 (p : Nat → Prop) : msk p 3 = (if p 0 then 1 else 0) + (if p 1 then 2 else 0) + (if p 2 then 4 else 0) := by
  simp only [msk]
  by_cases h0 : p 0 <;> by_cases h1 : p 1 <;> by_cases h2 : p 2 <;> simp [h0, h1, h2]
theorem msk_or (p q : Nat → Prop) : (((msk p 3).toNat ||| (msk q 3).toNat : Nat) : Int) = msk (fun c => p c ∨ q c) 3 := by
  rw [msk3, msk3, msk3]
  by_cases h0 : p 0 <;> by_cases h1 : p 1 <;> by_cases h2 : p 2 <;> by_cases k0 : q 0 <;> by_cases k1 : q 1 <;> by_cases k2 : q 2 <;> simp [h0, h1, h2, k0, k1, k2]
theorem msk_set (p : Nat → Prop) {k : Nat} (h : k < 3) : (((msk p k).toNat ||| ((1 : Int) * 2 ^ k).toNat : Nat) : Int) = msk p k + 2 ^ k := by
  have : k = 0 ∨ k = 1 ∨ k = 2 := by omega
  rcases this with rfl | rfl | rfl
  · simp [msk]
  · simp only [msk]; by_cases h0 : p 0 <;> simp [h0]
  · simp only [msk]; by_cases h0 : p 0 <;> by_cases h1 : p 1 <;> simp [h0, h1]
theorem msk_yes {p : Nat → Prop} {k : Nat} (h : p k) : msk p (k + 1) = msk p k + 2 ^ k := by rw [msk, if_pos h]
theorem msk_not {p : Nat → Prop} {k : Nat} (h : ¬ p k) : msk p (k + 1) = msk p k := by rw [msk, if_neg h]; omega
theorem msk_inj {p q : Nat → Prop} : msk p 3 = msk q 3 ↔ ∀ c, c < 3 → (p c ↔ q c) := by
  constructor
  · intro h
    rw [msk3, msk3] at h
    intro c hc
    have : c = 0 ∨ c = 1 ∨ c = 2 := by omega
    rcases this with rfl | rfl | rfl <;>
      by_cases h0 : p 0 <;> by_cases h1 : p 1 <;> by_cases h2 : p 2 <;> by_cases k0 : q 0 <;> by_cases k1 : q 1 <;> by_cases k2 : q 2 <;> simp [h0, h1, h2, k0, k1, k2] at h ⊢
  · exact msk_congr 3
def hAt (t : Town) (i : Int) (c : Nat) : Prop := hasAt t.ts t.ms c i t.mi
def hasG (t : Town) (i : Int) (c : Nat) : Prop := there t i ∧ hAt t i c
noncomputable def encG (t : Town) (i : Int) : List AV := [.int .i64 (pg t i), .int .i64 (if there t i then 1 else 0), .int .u64 (msk (hasG t i) 3)]
noncomputable def gs (t : Town) (j : Nat) : List (List AV) := (List.range j).map fun (i : Nat) => encG t i
def inG (t : Town) (j : Nat) (x : Int) : Prop := ∃ i : Nat, i < j ∧ there t i ∧ pg t i = x
def hsG (t : Town) (j : Nat) (x : Int) (c : Nat) : Prop := ∃ i : Nat, i < j ∧ there t i ∧ pg t i = x ∧ hAt t i c
noncomputable def mG (t : Town) (j : Nat) (x : Int) : Option Int := if inG t j x then some (msk (hsG t j x) 3) else none
theorem mG_D {t : Town} {j : Nat} {x : Int} : (mG t j x).getD 0 = msk (hsG t j x) 3 := by
  unfold mG
  split
  · rfl
  · rename_i h
    rw [msk_no 3 fun c _ ⟨i, h1, h2, h3, _⟩ => h ⟨i, h1, h2, h3⟩]; rfl
theorem gs_len {t : Town} {j : Nat} : (gs t j).length = j := by simp [gs]
theorem gs_get {t : Town} {j i : Nat} (h : i < j) : (gs t j)[i]? = some (encG t i) := by simp [gs, h]
theorem gs_succ {t : Town} {j : Nat} : gs t (j + 1) = gs t j ++ [encG t j] := by simp [gs, List.range_succ]
theorem gs_pure {t : Town} {j : Nat} : pureE (gs t j) = True := pureE_map fun _ => rfl
theorem mG_no {t : Town} {j : Nat} (h : ¬ there t j) (x : Int) : mG t (j + 1) x = mG t j x := by
  have e1 : inG t (j + 1) x ↔ inG t j x := ⟨fun ⟨i, h1, h2, h3⟩ => ⟨i, by rcases Nat.lt_or_ge i j with q | q; exact q; exact absurd (by rwa [show i = j from by omega] at h2) h, h2, h3⟩, fun ⟨i, h1, h2⟩ => ⟨i, by omega, h2⟩⟩
  have e2 : ∀ c, hsG t (j + 1) x c ↔ hsG t j x c := fun c => ⟨fun ⟨i, h1, h2, h3⟩ => ⟨i, by rcases Nat.lt_or_ge i j with q | q; exact q; exact absurd (by rwa [show i = j from by omega] at h2) h, h2, h3⟩, fun ⟨i, h1, h2⟩ => ⟨i, by omega, h2⟩⟩
  simp only [mG, e1, msk_congr 3 fun c _ => e2 c]
theorem mG_yes {t : Town} {j : Nat} (h : there t j) (x : Int) : mG t (j + 1) x = if x = pg t j then some (((msk (hsG t j (pg t j)) 3).toNat ||| (msk (hasG t j) 3).toNat : Nat) : Int) else mG t j x := by
  by_cases hx : x = pg t j
  · subst hx
    rw [if_pos rfl, msk_or, mG, if_pos ⟨j, by omega, h, rfl⟩]
    rw [msk_congr 3 fun c _ => ?_]
    constructor
    · rintro ⟨i, h1, h2, h3, h4⟩
      rcases Nat.lt_or_ge i j with q | q
      · exact .inl ⟨i, q, h2, h3, h4⟩
      · have : i = j := by omega
        subst this; exact .inr ⟨h2, h4⟩
    · rintro (⟨i, h1, h2⟩ | h2)
      · exact ⟨i, by omega, h2⟩
      · exact ⟨j, by omega, h2.1, rfl, h2.2⟩
  · rw [if_neg hx]
    have e1 : inG t (j + 1) x ↔ inG t j x := ⟨fun ⟨i, h1, h2, h3⟩ => ⟨i, by rcases Nat.lt_or_ge i j with q | q; exact q; exact absurd (by rw [← h3, show i = j from by omega]) hx, h2, h3⟩, fun ⟨i, h1, h2⟩ => ⟨i, by omega, h2⟩⟩
    have e2 : ∀ c, hsG t (j + 1) x c ↔ hsG t j x c := fun c => ⟨fun ⟨i, h1, h2, h3, h4⟩ => ⟨i, by rcases Nat.lt_or_ge i j with q | q; exact q; exact absurd (by rw [← h3, show i = j from by omega]) hx, h2, h3, h4⟩, fun ⟨i, h1, h2⟩ => ⟨i, by omega, h2⟩⟩
    simp only [mG, e1, msk_congr 3 fun c _ => e2 c]
noncomputable abbrev cG (t : Town) : List AV := [.lst false 4 (t.ts.map encT), .lst false 3 (t.ms.map encM), lN t.pl, lN t.ca, lN t.rm, .int .i64 t.mi, .lst false 3 (gs t t.ts.length), .pm Tryd.prog 91 .u64 (mG t t.ts.length)]
noncomputable abbrev hG (t : Town) : AV := .pp (cG t)
theorem c67n (t : Town) (is : Prop) (h : ¬ (validT t ∧ is)) : PC Tryd.prog 67 [hF t, .bool (decide is)] (.tup [.nilP, .int .i64 (askT t is)]) := by
  have h49 := c49 t
  by_cases hv : validT t
  · have hi : ¬ is := fun hi => h ⟨hv, hi⟩
    rw [checkT_yes hv] at h49
    rw [askT_arg hv hi, decide_eq_false hi]
    refine PC.body Tryd.func67 (by kernel_rfl) rfl (by simp [Tryd.f67]) rfl ?_
    simp only [Tryd.f67]
    intro hlen
    simp only [go_sem, List.length_map, and_true, true_and] at hlen
    refine CV.run ?_
    (repeat' (first | ((with_reducible first | apply sg | apply si | apply sq | apply sd) <;> intro hb <;> (try rw [hb]) <;> (try simp only [bq, bz, dtrue, dfalse] at hb) <;> (try simp only [within] at hb) <;> try simp only [go_sem]) | refine And.intro (by first | exact ⟨⟩ | omega | (simp only [I64]; omega)) ?_ | (with_reducible rw [vc_draw_eq]; first | (refine CV.draw (id := 12) sF10m_f67_12 mixed rfl (by kernel_rfl) ?_; delta sF10m_f67_12) | (refine CV.draw (id := 20) sF10m_f67_20 mixed rfl (by kernel_rfl) ?_; delta sF10m_f67_20) | (refine CV.draw (id := 22) sF10m_f67_22 mixed rfl (by kernel_rfl) ?_; delta sF10m_f67_22) | (refine CV.draw (id := 23) sF10m_f67_23 mixed rfl (by kernel_rfl) ?_; delta sF10m_f67_23)) | ((with_reducible first | refine vp h49 ?_ ?_ | refine dc h49 ?_ ?_); focus (first | exact ⟨rfl, .inl ⟨by first | rfl | (simp only [go_sem, AV.pureL, AV.pure]; done), by first | (simp only [go_sem, AV.pureL, AV.pure]; done) | rfl⟩⟩ | exact ⟨rfl, .inr ⟨rfl, by simp only [go_sem]⟩⟩)) | ((with_reducible first | refine dp h49 ?_ ?_); focus (exact ⟨rfl, by first | rfl | (simp only [go_sem, AV.pureL, AV.pure]; done), by first | (simp only [go_sem, AV.pureL, AV.pure]; done) | rfl⟩)) | ((with_reducible first | refine ds h49 ?_ ?_); focus exact ⟨rfl, rfl⟩) | (with_reducible refine vcM_some fun mg => ?_) | (simp only [go_sem])))
  · rw [checkT_no hv] at h49
    rw [askT_no hv]
    refine PC.body Tryd.func67 (by kernel_rfl) rfl (by simp [Tryd.f67]) rfl ?_
    simp only [Tryd.f67]
    intro hlen
    simp only [go_sem, List.length_map, and_true, true_and] at hlen
    refine CV.run ?_
    (repeat' (first | ((with_reducible first | apply sg | apply si | apply sq | apply sd) <;> intro hb <;> (try rw [hb]) <;> (try simp only [bq, bz, dtrue, dfalse] at hb) <;> (try simp only [within] at hb) <;> try simp only [go_sem]) | refine And.intro (by first | exact ⟨⟩ | omega | (simp only [I64]; omega)) ?_ | (with_reducible rw [vc_draw_eq]; first | (refine CV.draw (id := 12) sF10m_f67_12 mixed rfl (by kernel_rfl) ?_; delta sF10m_f67_12) | (refine CV.draw (id := 20) sF10m_f67_20 mixed rfl (by kernel_rfl) ?_; delta sF10m_f67_20) | (refine CV.draw (id := 22) sF10m_f67_22 mixed rfl (by kernel_rfl) ?_; delta sF10m_f67_22) | (refine CV.draw (id := 23) sF10m_f67_23 mixed rfl (by kernel_rfl) ?_; delta sF10m_f67_23)) | ((with_reducible first | refine vp h49 ?_ ?_ | refine dc h49 ?_ ?_); focus (first | exact ⟨rfl, .inl ⟨by first | rfl | (simp only [go_sem, AV.pureL, AV.pure]; done), by first | (simp only [go_sem, AV.pureL, AV.pure]; done) | rfl⟩⟩ | exact ⟨rfl, .inr ⟨rfl, by simp only [go_sem]⟩⟩)) | ((with_reducible first | refine dp h49 ?_ ?_); focus (exact ⟨rfl, by first | rfl | (simp only [go_sem, AV.pureL, AV.pure]; done), by first | (simp only [go_sem, AV.pureL, AV.pure]; done) | rfl⟩)) | ((with_reducible first | refine ds h49 ?_ ?_); focus exact ⟨rfl, rfl⟩) | (with_reducible refine vcM_some fun mg => ?_) | (simp only [go_sem])))
theorem belowB_mp {m : Nat} {P : Program} {g : Nat} {ty : TypeId} {q : IntKind} {n : Nat} {f : Int → Option Int} : belowB m (.mp P g ty q n f) = True := by simp [belowB]
attribute [go_sem] belowB_mp gs_pure
set_option maxHeartbeats 4000000 in
theorem c67y (t : Town) (hv : validT t) : PC Tryd.prog 67 [hF t, .bool true] (.tup [hG t, .int .i64 0]) := by
  have h49 := c49 t
  rw [checkT_yes hv] at h49
  have h8 := hv.len
  have hk := hv.things
  refine PC.body Tryd.func67 (by kernel_rfl) rfl (by simp [Tryd.f67]) rfl ?_
  simp only [Tryd.f67]
  intro hlen
  simp only [go_sem, List.length_map, and_true, true_and] at hlen
  refine CV.run ?_
  (repeat' (first | ((with_reducible first | apply sg | apply si | apply sq | apply sd) <;> intro hb <;> (try rw [hb]) <;> (try simp only [bq, bz, dtrue, dfalse] at hb) <;> (try simp only [within] at hb) <;> try simp only [go_sem]) | refine And.intro (by first | exact ⟨⟩ | omega | (simp only [I64]; omega)) ?_ | (with_reducible rw [vc_draw_eq]; first | (refine CV.draw (id := 12) sF10m_f67_12 mixed rfl (by kernel_rfl) ?_; delta sF10m_f67_12) | (refine CV.draw (id := 20) sF10m_f67_20 mixed rfl (by kernel_rfl) ?_; delta sF10m_f67_20) | (refine CV.draw (id := 22) sF10m_f67_22 mixed rfl (by kernel_rfl) ?_; delta sF10m_f67_22) | (refine CV.draw (id := 23) sF10m_f67_23 mixed rfl (by kernel_rfl) ?_; delta sF10m_f67_23)) | ((with_reducible first | refine vp h49 ?_ ?_ | refine dc h49 ?_ ?_); focus (first | exact ⟨rfl, .inl ⟨by first | rfl | (simp only [go_sem, AV.pureL, AV.pure]; done), by first | (simp only [go_sem, AV.pureL, AV.pure]; done) | rfl⟩⟩ | exact ⟨rfl, .inr ⟨rfl, by simp only [go_sem]⟩⟩)) | ((with_reducible first | refine dp h49 ?_ ?_); focus (exact ⟨rfl, by first | rfl | (simp only [go_sem, AV.pureL, AV.pure]; done), by first | (simp only [go_sem, AV.pureL, AV.pure]; done) | rfl⟩)) | ((with_reducible first | refine ds h49 ?_ ?_); focus exact ⟨rfl, rfl⟩) | (with_reducible refine vcM_some fun mg => ?_) | (simp only [go_sem])))
  refine vc_fx (fun (j : Nat) (x : Nat × (Int → Option Int)) => ⟨[(29, .int .i64 j), (28, .int .i64 t.ts.length), (27, .lst false 4 (t.ts.map encT)), (2, .lp 0 0), (4, .nilP), (5, .int .i64 0), (7, .lp 2 0)], [.box 28 (cT t) false, .mp Tryd.prog mg 91 .u64 x.1 x.2, .box 93 [.lst false 4 (t.ts.map encT), .lst false 3 (t.ms.map encM), lN t.pl, lN t.ca, lN t.rm, .int .i64 t.mi, .row 3 j, .mp mg] false, .row 89 3 (gs t j) false]⟩) t.ts.length (fun j x => x.1 ≤ j ∧ x.2 = mG t j) (0, fun _ => none) (.nilB 2 6 89 3 rfl rfl (by omega) (.base (by (first | exact wk_same (by simp only [go_sem, Int.natCast_add, cn, Int.cast_ofNat_Int, gs, List.range_zero, List.map_nil]) | (refine wk_drop ?_ ?_ ?_ ?_ ?_ <;> simp only [go_sem, Int.natCast_add, cn, Int.cast_ofNat_Int, gs, List.range_zero, List.map_nil]))))) ⟨by omega, by funext x; simp [mG, inG]⟩ ?_
  rintro j ⟨n, f⟩ hj ⟨hn, hf⟩
  simp only at hn hf ⊢
  rcases Nat.lt_or_ge j t.ts.length with hlt | hge
  · obtain ⟨x, hx⟩ := get_of hlt
    have hlt' : (j : Int) < t.ts.length := by omega
    have eo : ofT t j = x.of := ofT_of (by simpa using hx)
    have ea : atT t j = x.at_ := atT_of (by simpa using hx)
    have hol := of_lt hk (i := j) (by omega) hlt'
    rw [eo] at hol
    have gl : (gs t j).length = j := gs_len
    by_cases h1 : x.of = -1
    · have hpg : pg t j = j := pg_root (by rw [eo]; exact h1)
      by_cases h2 : x.at_ ≤ t.mi
      · (repeat' (first | ((with_reducible first | apply sg | apply si | apply sq | apply sd) <;> intro hb <;> (try rw [hb]) <;> (try simp only [bq, bz, dtrue, dfalse] at hb) <;> (try simp only [within] at hb) <;> try simp only [go_sem]) | refine And.intro (by first | exact ⟨⟩ | omega | (simp only [I64]; omega)) ?_ | (with_reducible rw [vc_draw_eq]; first | (refine CV.draw (id := 12) sF10m_f67_12 mixed rfl (by kernel_rfl) ?_; delta sF10m_f67_12) | (refine CV.draw (id := 20) sF10m_f67_20 mixed rfl (by kernel_rfl) ?_; delta sF10m_f67_20) | (refine CV.draw (id := 22) sF10m_f67_22 mixed rfl (by kernel_rfl) ?_; delta sF10m_f67_22) | (refine CV.draw (id := 23) sF10m_f67_23 mixed rfl (by kernel_rfl) ?_; delta sF10m_f67_23)) | (with_reducible refine vcM_some fun mg => ?_) | (simp only [go_sem, hlt', hx, h1, h2, encT, List.length_map])))
        have hth : there t j := by unfold there; rw [ea]; exact h2
        have hmk : msk (hasG t j) 3 = msk (hAt t j) 3 := msk_congr 3 fun c _ => ⟨fun h => h.2, fun h => ⟨hth, h⟩⟩
        have eg : gs t (j + 1) = gs t j ++ [[.int .i64 (pg t j), .int .i64 1, .int .u64 (msk (hAt t j) 3)]] := by
          rw [gs_succ, encG, if_pos hth, hmk]
        refine vc_for (fun k => ⟨[(55, .int .i64 k), (2, .lp 0 0), (4, .nilP), (5, .int .i64 0), (7, .lp 2 0), (8, .int .i64 j), (9, .lp 4 0), (10, .lp 5 0), (27, .lst false 4 (t.ts.map encT)), (28, .int .i64 t.ts.length), (29, .int .i64 j)], [.box 28 (cT t) false, .mp Tryd.prog mg 91 .u64 n f, .box 93 [.lst false 4 (t.ts.map encT), .lst false 3 (t.ms.map encM), lN t.pl, lN t.ca, lN t.rm, .int .i64 t.mi, .row 3 j, .mp mg] false, .row 89 3 (gs t j) false, .box 68 (encT x) false, .box 89 [.int .i64 (pg t j), .int .i64 1, .int .u64 (msk (hAt t j) k)] false]⟩) 3 (fun _ => True) (by (first | exact wk_same (by simp only [go_sem, Int.natCast_add, cn, Int.cast_ofNat_Int, hpg, h1, encT, msk, belowB_mp, gs_pure]) | (refine wk_drop ?_ ?_ ?_ ?_ ?_ <;> simp only [go_sem, Int.natCast_add, cn, Int.cast_ofNat_Int, hpg, h1, encT, msk, belowB_mp, gs_pure]))) trivial ?_
        intro k hk _
        rcases Nat.lt_or_ge k 3 with hkl | hkg
        · have hkl' : (k : Int) < 3 := by omega
          have h101 := c101 t.ts t.ms j k t.mi (hAt t j k, 0) (by rw [answer_yes ⟨hv.1, by unfold within; omega, by unfold within; omega, hv.2.2.2.2.2.2.2.1⟩]; rfl)
          simp only at h101
          have hmb := msk_bnd (hAt t j) k
          have h2k : (2 : Int) ^ k ≤ 4 := by
            have : k = 0 ∨ k = 1 ∨ k = 2 := by omega
            rcases this with rfl | rfl | rfl <;> decide
          have hu1 : U64 (1 * 2 ^ k) := ⟨by omega, by omega⟩
          have hu2 : U64 (msk (hAt t j) k) := ⟨by omega, by omega⟩
          have hst := msk_set (hAt t j) hkl
          by_cases ha : hAt t j k
          · have e := msk_yes (p := hAt t j) ha
            rw [decide_eq_true ha] at h101
            (repeat' (first | ((with_reducible first | apply sg | apply si | apply sq | apply sd) <;> intro hb <;> (try rw [hb]) <;> (try simp only [bq, bz, dtrue, dfalse] at hb) <;> (try simp only [within] at hb) <;> try simp only [go_sem]) | refine And.intro (by first | exact ⟨⟩ | omega | (simp only [I64]; omega)) ?_ | (with_reducible rw [vc_draw_eq]; first | (refine CV.draw (id := 12) sF10m_f67_12 mixed rfl (by kernel_rfl) ?_; delta sF10m_f67_12) | (refine CV.draw (id := 20) sF10m_f67_20 mixed rfl (by kernel_rfl) ?_; delta sF10m_f67_20) | (refine CV.draw (id := 22) sF10m_f67_22 mixed rfl (by kernel_rfl) ?_; delta sF10m_f67_22) | (refine CV.draw (id := 23) sF10m_f67_23 mixed rfl (by kernel_rfl) ?_; delta sF10m_f67_23)) | ((with_reducible first | refine vp h101 ?_ ?_ | refine dc h101 ?_ ?_); focus (first | exact ⟨rfl, .inl ⟨by first | rfl | (simp only [go_sem, hkl', hst, hu1, hu2, encT, List.length_map, AV.pureL, AV.pure]; done), by first | (simp only [go_sem, hkl', hst, hu1, hu2, encT, List.length_map, AV.pureL, AV.pure]; done) | rfl⟩⟩ | exact ⟨rfl, .inr ⟨rfl, by simp only [go_sem, hkl', hst, hu1, hu2, encT, List.length_map]⟩⟩)) | ((with_reducible first | refine dp h101 ?_ ?_); focus (exact ⟨rfl, by first | rfl | (simp only [go_sem, hkl', hst, hu1, hu2, encT, List.length_map, AV.pureL, AV.pure]; done), by first | (simp only [go_sem, hkl', hst, hu1, hu2, encT, List.length_map, AV.pureL, AV.pure]; done) | rfl⟩)) | ((with_reducible first | refine ds h101 ?_ ?_); focus exact ⟨rfl, rfl⟩) | (with_reducible refine vcM_some fun mg => ?_) | (simp only [go_sem, hkl', hst, hu1, hu2, encT, List.length_map])))
            exact (by (first | exact wk_same (by simp only [go_sem, Int.natCast_add, cn, Int.cast_ofNat_Int, e, encT]) | (refine wk_drop ?_ ?_ ?_ ?_ ?_ <;> simp only [go_sem, Int.natCast_add, cn, Int.cast_ofNat_Int, e, encT])))
          · have e := msk_not (p := hAt t j) ha
            rw [decide_eq_false ha] at h101
            (repeat' (first | ((with_reducible first | apply sg | apply si | apply sq | apply sd) <;> intro hb <;> (try rw [hb]) <;> (try simp only [bq, bz, dtrue, dfalse] at hb) <;> (try simp only [within] at hb) <;> try simp only [go_sem]) | refine And.intro (by first | exact ⟨⟩ | omega | (simp only [I64]; omega)) ?_ | (with_reducible rw [vc_draw_eq]; first | (refine CV.draw (id := 12) sF10m_f67_12 mixed rfl (by kernel_rfl) ?_; delta sF10m_f67_12) | (refine CV.draw (id := 20) sF10m_f67_20 mixed rfl (by kernel_rfl) ?_; delta sF10m_f67_20) | (refine CV.draw (id := 22) sF10m_f67_22 mixed rfl (by kernel_rfl) ?_; delta sF10m_f67_22) | (refine CV.draw (id := 23) sF10m_f67_23 mixed rfl (by kernel_rfl) ?_; delta sF10m_f67_23)) | ((with_reducible first | refine vp h101 ?_ ?_ | refine dc h101 ?_ ?_); focus (first | exact ⟨rfl, .inl ⟨by first | rfl | (simp only [go_sem, hkl', encT, List.length_map, AV.pureL, AV.pure]; done), by first | (simp only [go_sem, hkl', encT, List.length_map, AV.pureL, AV.pure]; done) | rfl⟩⟩ | exact ⟨rfl, .inr ⟨rfl, by simp only [go_sem, hkl', encT, List.length_map]⟩⟩)) | ((with_reducible first | refine dp h101 ?_ ?_); focus (exact ⟨rfl, by first | rfl | (simp only [go_sem, hkl', encT, List.length_map, AV.pureL, AV.pure]; done), by first | (simp only [go_sem, hkl', encT, List.length_map, AV.pureL, AV.pure]; done) | rfl⟩)) | ((with_reducible first | refine ds h101 ?_ ?_); focus exact ⟨rfl, rfl⟩) | (with_reducible refine vcM_some fun mg => ?_) | (simp only [go_sem, hkl', encT, List.length_map])))
            exact (by (first | exact wk_same (by simp only [go_sem, Int.natCast_add, cn, Int.cast_ofNat_Int, e, encT]) | (refine wk_drop ?_ ?_ ?_ ?_ ?_ <;> simp only [go_sem, Int.natCast_add, cn, Int.cast_ofNat_Int, e, encT])))
        · have hkg' : ¬ (k : Int) < 3 := by omega
          have : k = 3 := by omega
          subst this
          have hmb := msk_bnd (hAt t j) 3
          have hu2 : U64 (msk (hAt t j) 3) := ⟨by omega, by omega⟩
          have hu3 : ∀ p, U64 (msk p 3) := fun p => by have := msk_bnd p 3; exact ⟨by omega, by omega⟩
          have hIp : I64 (pg t j) = True := eq_true (by have := pg_ok hv.things (j + 1) j (by omega) (by omega) hlt'; simp only [I64]; omega)
          have hfp : (f (pg t j)).getD 0 = msk (hsG t j (pg t j)) 3 := by rw [hf]; exact mG_D
          have hor := msk_or (hsG t j (pg t j)) (hAt t j)
          have hwf : (Lit.int .u64 (msk (fun c => hsG t j (pg t j) c ∨ hAt t j c) 3)).wf = true := by
            have := hu3 (fun c => hsG t j (pg t j) c ∨ hAt t j c)
            unfold U64 at this
            simp [Lit.wf, IntKind.min, IntKind.max, IntKind.signed, IntKind.bits]
            omega
          (repeat' (first | ((with_reducible first | apply sg | apply si | apply sq | apply sd) <;> intro hb <;> (try rw [hb]) <;> (try simp only [bq, bz, dtrue, dfalse] at hb) <;> (try simp only [within] at hb) <;> try simp only [go_sem]) | refine And.intro (by first | exact ⟨⟩ | omega | (simp only [I64]; omega)) ?_ | (with_reducible rw [vc_draw_eq]; first | (refine CV.draw (id := 12) sF10m_f67_12 mixed rfl (by kernel_rfl) ?_; delta sF10m_f67_12) | (refine CV.draw (id := 20) sF10m_f67_20 mixed rfl (by kernel_rfl) ?_; delta sF10m_f67_20) | (refine CV.draw (id := 22) sF10m_f67_22 mixed rfl (by kernel_rfl) ?_; delta sF10m_f67_22) | (refine CV.draw (id := 23) sF10m_f67_23 mixed rfl (by kernel_rfl) ?_; delta sF10m_f67_23)) | (with_reducible refine vcM_some fun mg => ?_) | (simp only [go_sem, hkg', hIp, hfp, hu2, hu3, hor, hwf, gl, encT, List.length_map])))
          refine ⟨(n + 1, fun z => if z = pg t j then some (msk (fun c => hsG t j (pg t j) c ∨ hAt t j c) 3) else f z), hlt, .base (by (first | exact wk_same (by simp only [go_sem, Int.natCast_add, cn, Int.cast_ofNat_Int, eg.symm]) | (refine wk_drop ?_ ?_ ?_ ?_ ?_ <;> simp only [go_sem, Int.natCast_add, cn, Int.cast_ofNat_Int, eg.symm]))), by simp only; omega, ?_⟩
          funext z
          simp only
          rw [mG_yes hth, hmk, hor, hf]
      · have hth : ¬ there t j := by unfold there; rw [ea]; exact h2
        have eg : gs t (j + 1) = gs t j ++ [[.int .i64 j, .int .i64 0, .int .u64 0]] := by
          rw [gs_succ, encG, hpg, if_neg hth, msk_no 3 fun c _ h => hth h.1]
        (repeat' (first | ((with_reducible first | apply sg | apply si | apply sq | apply sd) <;> intro hb <;> (try rw [hb]) <;> (try simp only [bq, bz, dtrue, dfalse] at hb) <;> (try simp only [within] at hb) <;> try simp only [go_sem]) | refine And.intro (by first | exact ⟨⟩ | omega | (simp only [I64]; omega)) ?_ | (with_reducible rw [vc_draw_eq]; first | (refine CV.draw (id := 12) sF10m_f67_12 mixed rfl (by kernel_rfl) ?_; delta sF10m_f67_12) | (refine CV.draw (id := 20) sF10m_f67_20 mixed rfl (by kernel_rfl) ?_; delta sF10m_f67_20) | (refine CV.draw (id := 22) sF10m_f67_22 mixed rfl (by kernel_rfl) ?_; delta sF10m_f67_22) | (refine CV.draw (id := 23) sF10m_f67_23 mixed rfl (by kernel_rfl) ?_; delta sF10m_f67_23)) | (with_reducible refine vcM_some fun mg => ?_) | (simp only [go_sem, hlt', hx, h1, h2, encT, List.length_map])))
        refine ⟨(n, f), hlt, .base (by (first | exact wk_same (by simp only [go_sem, Int.natCast_add, cn, Int.cast_ofNat_Int, eg.symm, belowB_mp, gs_pure]) | (refine wk_drop ?_ ?_ ?_ ?_ ?_ <;> simp only [go_sem, Int.natCast_add, cn, Int.cast_ofNat_Int, eg.symm, belowB_mp, gs_pure]))), by simp only; omega, ?_⟩
        funext z; simp only [hf]; rw [mG_no hth]
    · have hpg' : pg t j = pg t x.of := by rw [pg_up hk (by omega) hlt' (by rw [eo]; exact h1), eo]
      have hoj : x.of < j := by omega
      have hoj2 : x.of.toNat < j := by omega
      have hog := gs_get (t := t) hoj2
      have hcast : ((x.of.toNat : Nat) : Int) = x.of := by omega
      rw [encG, hcast, ← hpg'] at hog
      have hpg : (j : Int) = j := rfl
      by_cases h2 : x.at_ ≤ t.mi
      · (repeat' (first | ((with_reducible first | apply sg | apply si | apply sq | apply sd) <;> intro hb <;> (try rw [hb]) <;> (try simp only [bq, bz, dtrue, dfalse] at hb) <;> (try simp only [within] at hb) <;> try simp only [go_sem]) | refine And.intro (by first | exact ⟨⟩ | omega | (simp only [I64]; omega)) ?_ | (with_reducible rw [vc_draw_eq]; first | (refine CV.draw (id := 12) sF10m_f67_12 mixed rfl (by kernel_rfl) ?_; delta sF10m_f67_12) | (refine CV.draw (id := 20) sF10m_f67_20 mixed rfl (by kernel_rfl) ?_; delta sF10m_f67_20) | (refine CV.draw (id := 22) sF10m_f67_22 mixed rfl (by kernel_rfl) ?_; delta sF10m_f67_22) | (refine CV.draw (id := 23) sF10m_f67_23 mixed rfl (by kernel_rfl) ?_; delta sF10m_f67_23)) | (with_reducible refine vcM_some fun mg => ?_) | (simp only [go_sem, hlt', hx, h1, h2, hoj, hoj2, hog, encT, List.length_map])))
        have hth : there t j := by unfold there; rw [ea]; exact h2
        have hmk : msk (hasG t j) 3 = msk (hAt t j) 3 := msk_congr 3 fun c _ => ⟨fun h => h.2, fun h => ⟨hth, h⟩⟩
        have eg : gs t (j + 1) = gs t j ++ [[.int .i64 (pg t j), .int .i64 1, .int .u64 (msk (hAt t j) 3)]] := by
          rw [gs_succ, encG, if_pos hth, hmk]
        refine vc_for (fun k => ⟨[(55, .int .i64 k), (2, .lp 0 0), (4, .nilP), (5, .int .i64 0), (7, .lp 2 0), (8, .int .i64 j), (9, .lp 4 0), (10, .lp 5 0), (27, .lst false 4 (t.ts.map encT)), (28, .int .i64 t.ts.length), (29, .int .i64 j)], [.box 28 (cT t) false, .mp Tryd.prog mg 91 .u64 n f, .box 93 [.lst false 4 (t.ts.map encT), .lst false 3 (t.ms.map encM), lN t.pl, lN t.ca, lN t.rm, .int .i64 t.mi, .row 3 j, .mp mg] false, .row 89 3 (gs t j) false, .box 68 (encT x) false, .box 89 [.int .i64 (pg t j), .int .i64 1, .int .u64 (msk (hAt t j) k)] false]⟩) 3 (fun _ => True) (by (first | exact wk_same (by simp only [go_sem, Int.natCast_add, cn, Int.cast_ofNat_Int, hpg, h1, encT, msk, belowB_mp, gs_pure]) | (refine wk_drop ?_ ?_ ?_ ?_ ?_ <;> simp only [go_sem, Int.natCast_add, cn, Int.cast_ofNat_Int, hpg, h1, encT, msk, belowB_mp, gs_pure]))) trivial ?_
        intro k hk _
        rcases Nat.lt_or_ge k 3 with hkl | hkg
        · have hkl' : (k : Int) < 3 := by omega
          have h101 := c101 t.ts t.ms j k t.mi (hAt t j k, 0) (by rw [answer_yes ⟨hv.1, by unfold within; omega, by unfold within; omega, hv.2.2.2.2.2.2.2.1⟩]; rfl)
          simp only at h101
          have hmb := msk_bnd (hAt t j) k
          have h2k : (2 : Int) ^ k ≤ 4 := by
            have : k = 0 ∨ k = 1 ∨ k = 2 := by omega
            rcases this with rfl | rfl | rfl <;> decide
          have hu1 : U64 (1 * 2 ^ k) := ⟨by omega, by omega⟩
          have hu2 : U64 (msk (hAt t j) k) := ⟨by omega, by omega⟩
          have hst := msk_set (hAt t j) hkl
          by_cases ha : hAt t j k
          · have e := msk_yes (p := hAt t j) ha
            rw [decide_eq_true ha] at h101
            (repeat' (first | ((with_reducible first | apply sg | apply si | apply sq | apply sd) <;> intro hb <;> (try rw [hb]) <;> (try simp only [bq, bz, dtrue, dfalse] at hb) <;> (try simp only [within] at hb) <;> try simp only [go_sem]) | refine And.intro (by first | exact ⟨⟩ | omega | (simp only [I64]; omega)) ?_ | (with_reducible rw [vc_draw_eq]; first | (refine CV.draw (id := 12) sF10m_f67_12 mixed rfl (by kernel_rfl) ?_; delta sF10m_f67_12) | (refine CV.draw (id := 20) sF10m_f67_20 mixed rfl (by kernel_rfl) ?_; delta sF10m_f67_20) | (refine CV.draw (id := 22) sF10m_f67_22 mixed rfl (by kernel_rfl) ?_; delta sF10m_f67_22) | (refine CV.draw (id := 23) sF10m_f67_23 mixed rfl (by kernel_rfl) ?_; delta sF10m_f67_23)) | ((with_reducible first | refine vp h101 ?_ ?_ | refine dc h101 ?_ ?_); focus (first | exact ⟨rfl, .inl ⟨by first | rfl | (simp only [go_sem, hkl', hst, hu1, hu2, encT, List.length_map, AV.pureL, AV.pure]; done), by first | (simp only [go_sem, hkl', hst, hu1, hu2, encT, List.length_map, AV.pureL, AV.pure]; done) | rfl⟩⟩ | exact ⟨rfl, .inr ⟨rfl, by simp only [go_sem, hkl', hst, hu1, hu2, encT, List.length_map]⟩⟩)) | ((with_reducible first | refine dp h101 ?_ ?_); focus (exact ⟨rfl, by first | rfl | (simp only [go_sem, hkl', hst, hu1, hu2, encT, List.length_map, AV.pureL, AV.pure]; done), by first | (simp only [go_sem, hkl', hst, hu1, hu2, encT, List.length_map, AV.pureL, AV.pure]; done) | rfl⟩)) | ((with_reducible first | refine ds h101 ?_ ?_); focus exact ⟨rfl, rfl⟩) | (with_reducible refine vcM_some fun mg => ?_) | (simp only [go_sem, hkl', hst, hu1, hu2, encT, List.length_map])))
            exact (by (first | exact wk_same (by simp only [go_sem, Int.natCast_add, cn, Int.cast_ofNat_Int, e, encT]) | (refine wk_drop ?_ ?_ ?_ ?_ ?_ <;> simp only [go_sem, Int.natCast_add, cn, Int.cast_ofNat_Int, e, encT])))
          · have e := msk_not (p := hAt t j) ha
            rw [decide_eq_false ha] at h101
            (repeat' (first | ((with_reducible first | apply sg | apply si | apply sq | apply sd) <;> intro hb <;> (try rw [hb]) <;> (try simp only [bq, bz, dtrue, dfalse] at hb) <;> (try simp only [within] at hb) <;> try simp only [go_sem]) | refine And.intro (by first | exact ⟨⟩ | omega | (simp only [I64]; omega)) ?_ | (with_reducible rw [vc_draw_eq]; first | (refine CV.draw (id := 12) sF10m_f67_12 mixed rfl (by kernel_rfl) ?_; delta sF10m_f67_12) | (refine CV.draw (id := 20) sF10m_f67_20 mixed rfl (by kernel_rfl) ?_; delta sF10m_f67_20) | (refine CV.draw (id := 22) sF10m_f67_22 mixed rfl (by kernel_rfl) ?_; delta sF10m_f67_22) | (refine CV.draw (id := 23) sF10m_f67_23 mixed rfl (by kernel_rfl) ?_; delta sF10m_f67_23)) | ((with_reducible first | refine vp h101 ?_ ?_ | refine dc h101 ?_ ?_); focus (first | exact ⟨rfl, .inl ⟨by first | rfl | (simp only [go_sem, hkl', encT, List.length_map, AV.pureL, AV.pure]; done), by first | (simp only [go_sem, hkl', encT, List.length_map, AV.pureL, AV.pure]; done) | rfl⟩⟩ | exact ⟨rfl, .inr ⟨rfl, by simp only [go_sem, hkl', encT, List.length_map]⟩⟩)) | ((with_reducible first | refine dp h101 ?_ ?_); focus (exact ⟨rfl, by first | rfl | (simp only [go_sem, hkl', encT, List.length_map, AV.pureL, AV.pure]; done), by first | (simp only [go_sem, hkl', encT, List.length_map, AV.pureL, AV.pure]; done) | rfl⟩)) | ((with_reducible first | refine ds h101 ?_ ?_); focus exact ⟨rfl, rfl⟩) | (with_reducible refine vcM_some fun mg => ?_) | (simp only [go_sem, hkl', encT, List.length_map])))
            exact (by (first | exact wk_same (by simp only [go_sem, Int.natCast_add, cn, Int.cast_ofNat_Int, e, encT]) | (refine wk_drop ?_ ?_ ?_ ?_ ?_ <;> simp only [go_sem, Int.natCast_add, cn, Int.cast_ofNat_Int, e, encT])))
        · have hkg' : ¬ (k : Int) < 3 := by omega
          have : k = 3 := by omega
          subst this
          have hmb := msk_bnd (hAt t j) 3
          have hu2 : U64 (msk (hAt t j) 3) := ⟨by omega, by omega⟩
          have hu3 : ∀ p, U64 (msk p 3) := fun p => by have := msk_bnd p 3; exact ⟨by omega, by omega⟩
          have hIp : I64 (pg t j) = True := eq_true (by have := pg_ok hv.things (j + 1) j (by omega) (by omega) hlt'; simp only [I64]; omega)
          have hfp : (f (pg t j)).getD 0 = msk (hsG t j (pg t j)) 3 := by rw [hf]; exact mG_D
          have hor := msk_or (hsG t j (pg t j)) (hAt t j)
          have hwf : (Lit.int .u64 (msk (fun c => hsG t j (pg t j) c ∨ hAt t j c) 3)).wf = true := by
            have := hu3 (fun c => hsG t j (pg t j) c ∨ hAt t j c)
            unfold U64 at this
            simp [Lit.wf, IntKind.min, IntKind.max, IntKind.signed, IntKind.bits]
            omega
          (repeat' (first | ((with_reducible first | apply sg | apply si | apply sq | apply sd) <;> intro hb <;> (try rw [hb]) <;> (try simp only [bq, bz, dtrue, dfalse] at hb) <;> (try simp only [within] at hb) <;> try simp only [go_sem]) | refine And.intro (by first | exact ⟨⟩ | omega | (simp only [I64]; omega)) ?_ | (with_reducible rw [vc_draw_eq]; first | (refine CV.draw (id := 12) sF10m_f67_12 mixed rfl (by kernel_rfl) ?_; delta sF10m_f67_12) | (refine CV.draw (id := 20) sF10m_f67_20 mixed rfl (by kernel_rfl) ?_; delta sF10m_f67_20) | (refine CV.draw (id := 22) sF10m_f67_22 mixed rfl (by kernel_rfl) ?_; delta sF10m_f67_22) | (refine CV.draw (id := 23) sF10m_f67_23 mixed rfl (by kernel_rfl) ?_; delta sF10m_f67_23)) | (with_reducible refine vcM_some fun mg => ?_) | (simp only [go_sem, hkg', hIp, hfp, hu2, hu3, hor, hwf, gl, encT, List.length_map])))
          refine ⟨(n + 1, fun z => if z = pg t j then some (msk (fun c => hsG t j (pg t j) c ∨ hAt t j c) 3) else f z), hlt, .base (by (first | exact wk_same (by simp only [go_sem, Int.natCast_add, cn, Int.cast_ofNat_Int, eg.symm]) | (refine wk_drop ?_ ?_ ?_ ?_ ?_ <;> simp only [go_sem, Int.natCast_add, cn, Int.cast_ofNat_Int, eg.symm]))), by simp only; omega, ?_⟩
          funext z
          simp only
          rw [mG_yes hth, hmk, hor, hf]
      · have hth : ¬ there t j := by unfold there; rw [ea]; exact h2
        have eg : gs t (j + 1) = gs t j ++ [[.int .i64 (pg t j), .int .i64 0, .int .u64 0]] := by
          rw [gs_succ, encG, if_neg hth, msk_no 3 fun c _ h => hth h.1]
        (repeat' (first | ((with_reducible first | apply sg | apply si | apply sq | apply sd) <;> intro hb <;> (try rw [hb]) <;> (try simp only [bq, bz, dtrue, dfalse] at hb) <;> (try simp only [within] at hb) <;> try simp only [go_sem]) | refine And.intro (by first | exact ⟨⟩ | omega | (simp only [I64]; omega)) ?_ | (with_reducible rw [vc_draw_eq]; first | (refine CV.draw (id := 12) sF10m_f67_12 mixed rfl (by kernel_rfl) ?_; delta sF10m_f67_12) | (refine CV.draw (id := 20) sF10m_f67_20 mixed rfl (by kernel_rfl) ?_; delta sF10m_f67_20) | (refine CV.draw (id := 22) sF10m_f67_22 mixed rfl (by kernel_rfl) ?_; delta sF10m_f67_22) | (refine CV.draw (id := 23) sF10m_f67_23 mixed rfl (by kernel_rfl) ?_; delta sF10m_f67_23)) | (with_reducible refine vcM_some fun mg => ?_) | (simp only [go_sem, hlt', hx, h1, h2, hoj, hoj2, hog, encT, List.length_map])))
        refine ⟨(n, f), hlt, .base (by (first | exact wk_same (by simp only [go_sem, Int.natCast_add, cn, Int.cast_ofNat_Int, eg.symm, belowB_mp, gs_pure]) | (refine wk_drop ?_ ?_ ?_ ?_ ?_ <;> simp only [go_sem, Int.natCast_add, cn, Int.cast_ofNat_Int, eg.symm, belowB_mp, gs_pure]))), by simp only; omega, ?_⟩
        funext z; simp only [hf]; rw [mG_no hth]
  · have hge' : ¬ (j : Int) < t.ts.length := by omega
    have : j = t.ts.length := by omega
    subst this
    (repeat' (first | ((with_reducible first | apply sg | apply si | apply sq | apply sd) <;> intro hb <;> (try rw [hb]) <;> (try simp only [bq, bz, dtrue, dfalse] at hb) <;> (try simp only [within] at hb) <;> try simp only [go_sem]) | refine And.intro (by first | exact ⟨⟩ | omega | (simp only [I64]; omega)) ?_ | (with_reducible rw [vc_draw_eq]; first | (refine CV.draw (id := 12) sF10m_f67_12 mixed rfl (by kernel_rfl) ?_; delta sF10m_f67_12) | (refine CV.draw (id := 20) sF10m_f67_20 mixed rfl (by kernel_rfl) ?_; delta sF10m_f67_20) | (refine CV.draw (id := 22) sF10m_f67_22 mixed rfl (by kernel_rfl) ?_; delta sF10m_f67_22) | (refine CV.draw (id := 23) sF10m_f67_23 mixed rfl (by kernel_rfl) ?_; delta sF10m_f67_23)) | (with_reducible refine vcM_some fun mg => ?_) | (simp only [go_sem, hge', List.length_map])))
    trace_state
    first
      | exact hf
      | exact ⟨⟨gs_len, frzE_self _ _ (by rw [gs_pure]; trivial)⟩, hf⟩
      | exact ⟨gs_len, hf⟩
end Go.Proofs.YtjlopclpofbgbaaDoor

