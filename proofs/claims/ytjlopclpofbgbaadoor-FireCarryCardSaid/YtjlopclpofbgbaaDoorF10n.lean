/- Contracts of functions of the given program, without a condition beyond those that each theorem states; they lead to the given statement. -/
import Derived.Test.YtjlopclpofbgbaaDoorF10m
set_option linter.unusedSimpArgs false
set_option linter.unusedVariables false
set_option maxRecDepth 100000
namespace Go.Proofs.YtjlopclpofbgbaaDoor
open Go Go.Fl
open Classical
def sF10n_f88_2 : List (Nat × Nat) := [(0, 0), (0, 0), (0, 0), (0, 0), (0, 0), (0, 0), (0, 0), (0, 0), (0, 0), (0, 0), (0, 0), (0, 0), (0, 0), (0, 0), (0, 0), (0, 0)]
def sF10n_f102_3 : List (Nat × Nat) := [(0, 0), (0, 0), (0, 0), (0, 0), (0, 0), (0, 0), (0, 0), (0, 0), (0, 0), (0, 0), (0, 0), (0, 0), (0, 0), (0, 0), (0, 0), (0, 0), (0, 0), (0, 0), (0, 0), (0, 0), (1, 1), (1, 1)]
theorem e01 : ((0 : Int) = 1) = False := by simp
attribute [go_sem] e01
theorem sel_nil {p : Nat → Prop} {n : Nat} : sel p n = [] ↔ ∀ c, c < n → ¬ p c := by
  constructor
  · intro h c hc hp
    have : (c : Int) ∈ sel p n := (sel_mem n _).2 ⟨c, hc, rfl, hp⟩
    rw [h] at this; simp at this
  · intro h
    rcases e : sel p n with _ | ⟨x, r⟩
    · rfl
    · obtain ⟨i, h1, _, h2⟩ := (sel_mem n x).1 (by rw [e]; simp)
      exact absurd h2 (h i h1)
theorem fr_iff {t : Town} {i : Int} (h : there t i) (h0 : 0 ≤ i) (h1 : i < t.ts.length) : fr t i ↔ msk (hasG t i) 3 = msk (hsG t t.ts.length (pg t i)) 3 := by
  rw [msk_inj]
  unfold fr lks
  rw [sel_nil]
  constructor
  · rintro ⟨_, h2⟩ c hc
    constructor
    · intro hh; exact ⟨i.toNat, by omega, by rw [show ((i.toNat : Nat) : Int) = i from by omega]; exact ⟨h, rfl, hh.2⟩⟩
    · rintro ⟨k, k1, k2, k3, k4⟩
      exact ⟨h, Classical.byContradiction fun hn => h2 c hc ⟨⟨k, thg_mem.2 ⟨by omega, by omega, k2, k3⟩, k4⟩, hn⟩⟩
  · intro h2
    refine ⟨h, fun c hc hl => ?_⟩
    obtain ⟨⟨x, x1, x2⟩, x3⟩ := hl
    obtain ⟨y1, y2, y3, y4⟩ := thg_mem.1 x1
    refine x3 ((h2 c hc).2 ⟨x.toNat, by omega, ?_⟩).2
    rw [show ((x.toNat : Nat) : Int) = x from by omega]
    exact ⟨y3, y4, x2⟩
theorem c88 (t : Town) (hk : okThings t.ts) (h8 : t.ts.length ≤ 8) (i : Nat) (h1 : i < t.ts.length) : PC Tryd.prog 88 [hG t, .int .i64 i] (.bool (decide (fr t i))) := by
  have hg := gs_get (t := t) h1
  have h1' : (i : Int) < t.ts.length := by omega
  have hD := mG_D (t := t) (j := t.ts.length) (x := pg t i)
  have hIp : I64 (pg t i) = True := eq_true (by have := pg_ok hk (i + 1) i (by omega) (by omega) h1'; simp only [I64]; omega)
  have gl : (gs t t.ts.length).length = t.ts.length := gs_len
  by_cases a1 : there t i
  · rw [encG, if_pos a1] at hg
    refine PC.body Tryd.func88 (by kernel_rfl) rfl (by simp [Tryd.f88]) rfl ?_
    simp only [Tryd.f88]
    intro hlen
    simp only [go_sem, List.length_map, and_true, true_and] at hlen
    refine CV.run ?_
    (repeat' (first | ((with_reducible first | apply sg | apply si | apply sq | apply sd) <;> intro hb <;> (try rw [hb]) <;> (try simp only [bq, bz, dtrue, dfalse] at hb) <;> (try simp only [within] at hb) <;> try simp only [go_sem]) | refine And.intro (by first | exact ⟨⟩ | omega | (simp only [I64]; omega)) ?_ | (with_reducible rw [vc_draw_eq]; first | (refine CV.draw (id := 2) sF10n_f88_2 mixed rfl (by kernel_rfl) ?_; delta sF10n_f88_2)) | (simp only [go_sem, hg, h1', hD, hIp, gl])))
    exact bd (fr_iff a1 (by omega) h1').symm
  · rw [encG, if_neg a1] at hg
    refine PC.body Tryd.func88 (by kernel_rfl) rfl (by simp [Tryd.f88]) rfl ?_
    simp only [Tryd.f88]
    intro hlen
    simp only [go_sem, List.length_map, and_true, true_and] at hlen
    refine CV.run ?_
    (repeat' (first | ((with_reducible first | apply sg | apply si | apply sq | apply sd) <;> intro hb <;> (try rw [hb]) <;> (try simp only [bq, bz, dtrue, dfalse] at hb) <;> (try simp only [within] at hb) <;> try simp only [go_sem]) | refine And.intro (by first | exact ⟨⟩ | omega | (simp only [I64]; omega)) ?_ | (with_reducible rw [vc_draw_eq]; first | (refine CV.draw (id := 2) sF10n_f88_2 mixed rfl (by kernel_rfl) ?_; delta sF10n_f88_2)) | (simp only [go_sem, hg, h1', hD, hIp, gl])))
    exact bf (p := fr t i) fun h => a1 h.1
theorem c69 (t : Town) (b : Int) : PC Tryd.prog 69 [hG t, .int .i64 b] (.fn 102 [.pp [hG t], .pp [.int .i64 b]]) := by
  refine PC.body Tryd.func69 (by kernel_rfl) rfl (by simp [Tryd.f69]) rfl ?_
  simp only [Tryd.f69]
  intro hlen
  simp only [go_sem, List.length_map, and_true, true_and] at hlen
  refine CV.run ?_
  (repeat' (first | ((with_reducible first | apply sg | apply si | apply sq | apply sd) <;> intro hb <;> (try rw [hb]) <;> (try simp only [bq, bz, dtrue, dfalse] at hb) <;> (try simp only [within] at hb) <;> try simp only [go_sem]) | refine And.intro (by first | exact ⟨⟩ | omega | (simp only [I64]; omega)) ?_ | (simp only [go_sem])))
set_option maxHeartbeats 1000000 in
theorem c102_3 (t : Town) (b : Int) (h8 : t.ts.length ≤ 8) (hp : t.pl.length = t.ts.length) (B1 B2 B3 : Nat → Blk) (hB1 : ∀ j, belowB 4 (B1 j)) (hB2 : ∀ j, belowB 4 (B2 j)) (hB3 : ∀ j, belowB 4 (B3 j)) (l nt0 : Nat) (ps : Array Tmp) (assign body : Code) (env0 : Env) (hE : belowE 4 env0)
    (hy : ∀ j : Nat, j < t.ts.length → stays t b j → ∀ own, HCY Tryd.prog l [.int .i64 j, .agg (encG t j)] (B1 j :: B2 j :: B3 j :: .loop l nt0 ps assign body env0 :: own) fun r H2 => r = .bool true ∧ H2 = B1 (j + 1) :: B2 (j + 1) :: B3 (j + 1) :: .loop l nt0 ps assign body env0 :: own)
    (hno : ∀ j : Nat, j < t.ts.length → ¬ stays t b j → B1 (j + 1) = B1 j ∧ B2 (j + 1) = B2 j ∧ B3 (j + 1) = B3 j) :
    HCH Tryd.prog 102 [.yld l, .pp [hG t], .pp [.int .i64 b]] (B1 0 :: B2 0 :: B3 0 :: [.loop l nt0 ps assign body env0]) fun r H' => ∃ rest, H' = B1 t.ts.length :: B2 t.ts.length :: B3 t.ts.length :: .loop l nt0 ps assign body env0 :: rest := by
  have gl : (gs t t.ts.length).length = t.ts.length := gs_len
  refine HCH.body Tryd.func102 (by kernel_rfl) rfl (by simp [Tryd.f102]) ?_
  simp only [Tryd.f102]
  refine CV.run ?_
  (repeat' (first | ((with_reducible first | apply sg | apply si | apply sq | apply sd) <;> intro hb <;> (try rw [hb]) <;> (try simp only [bq, bz, dtrue, dfalse] at hb) <;> (try simp only [within] at hb) <;> try simp only [go_sem]) | refine And.intro (by first | exact ⟨⟩ | omega | (simp only [I64]; omega)) ?_ | (with_reducible rw [vc_draw_eq]; first | (refine CV.draw (id := 3) sF10n_f102_3 mixed rfl (by kernel_rfl) ?_; delta sF10n_f102_3)) | (simp only [go_sem, gl])))
  refine vc_for (fun j => ⟨[(11, .int .i64 j), (10, .int .i64 t.ts.length), (9, .lst false 3 (gs t t.ts.length)), (0, .yld l), (1, .pp [hG t]), (2, .pp [.int .i64 b])], B1 j :: B2 j :: B3 j :: [.loop l nt0 ps assign body env0]⟩) t.ts.length (fun _ => True) (by (first | exact wk_same (by simp only [go_sem, Int.natCast_add, cn, Int.cast_ofNat_Int, gl]) | (refine wk_drop ?_ ?_ ?_ ?_ ?_ <;> simp only [go_sem, Int.natCast_add, cn, Int.cast_ofNat_Int, gl]))) trivial ?_
  intro j hj _
  rcases Nat.lt_or_ge j t.ts.length with hlt | hge
  · have hlt' : (j : Int) < t.ts.length := by omega
    have hg := gs_get (t := t) hlt
    obtain ⟨y, hy1⟩ := get_of (l := t.pl) (j := j) (by omega)
    have ey := gv_nat hy1
    have hjp : (j : Int) < t.pl.length := by omega
    by_cases a1 : there t j
    · by_cases a2 : y = b
      · have hns : ¬ stays t b j := fun h => h.2 (by rw [ey]; exact a2)
        obtain ⟨e1, e2, e3⟩ := hno j hlt hns
        rw [encG, if_pos a1] at hg
        (repeat' (first | ((with_reducible first | apply sg | apply si | apply sq | apply sd) <;> intro hb <;> (try rw [hb]) <;> (try simp only [bq, bz, dtrue, dfalse] at hb) <;> (try simp only [within] at hb) <;> try simp only [go_sem]) | refine And.intro (by first | exact ⟨⟩ | omega | (simp only [I64]; omega)) ?_ | (with_reducible rw [vc_draw_eq]; first | (refine CV.draw (id := 3) sF10n_f102_3 mixed rfl (by kernel_rfl) ?_; delta sF10n_f102_3)) | (simp only [go_sem, hlt', hjp, hg, gl, hy1, a2, encN, List.length_map])))
        exact (by (first | exact wk_same (by simp only [go_sem, Int.natCast_add, cn, Int.cast_ofNat_Int, e1, e2, e3, hB1, hB2, hB3, hE]) | (refine wk_drop ?_ ?_ ?_ ?_ ?_ <;> simp only [go_sem, Int.natCast_add, cn, Int.cast_ofNat_Int, e1, e2, e3, hB1, hB2, hB3, hE])))
      · have hs : stays t b j := ⟨a1, by rw [ey]; exact a2⟩
        have hyy := hy j hlt hs
        rw [encG, if_pos a1] at hg hyy
        (repeat' (first | ((with_reducible first | apply sg | apply si | apply sq | apply sd) <;> intro hb <;> (try rw [hb]) <;> (try simp only [bq, bz, dtrue, dfalse] at hb) <;> (try simp only [within] at hb) <;> try simp only [go_sem]) | refine And.intro (by first | exact ⟨⟩ | omega | (simp only [I64]; omega)) ?_ | (with_reducible rw [vc_draw_eq]; first | (refine CV.draw (id := 3) sF10n_f102_3 mixed rfl (by kernel_rfl) ?_; delta sF10n_f102_3)) | (simp only [go_sem, hlt', hjp, hg, gl, hy1, a2, encN, List.length_map])))
        refine dCallY_mk ?_ (hyy [.box 89 [.int .i64 (pg t j), .int .i64 1, .int .u64 (msk (hasG t j) 3)] false]) ?_
        · (simp only [go_sem])
        (repeat' (first | ((with_reducible first | apply sg | apply si | apply sq | apply sd) <;> intro hb <;> (try rw [hb]) <;> (try simp only [bq, bz, dtrue, dfalse] at hb) <;> (try simp only [within] at hb) <;> try simp only [go_sem]) | refine And.intro (by first | exact ⟨⟩ | omega | (simp only [I64]; omega)) ?_ | (with_reducible rw [vc_draw_eq]; first | (refine CV.draw (id := 3) sF10n_f102_3 mixed rfl (by kernel_rfl) ?_; delta sF10n_f102_3)) | (simp only [go_sem, hlt', hjp, hg, gl, hy1, a2, encN, List.length_map])))
        all_goals exact (by (first | exact wk_same (by simp only [go_sem, Int.natCast_add, cn, Int.cast_ofNat_Int, hB1, hB2, hB3, hE]) | (refine wk_drop ?_ ?_ ?_ ?_ ?_ <;> simp only [go_sem, Int.natCast_add, cn, Int.cast_ofNat_Int, hB1, hB2, hB3, hE])))
    · have hns : ¬ stays t b j := fun h => a1 h.1
      obtain ⟨e1, e2, e3⟩ := hno j hlt hns
      rw [encG, if_neg a1] at hg
      (repeat' (first | ((with_reducible first | apply sg | apply si | apply sq | apply sd) <;> intro hb <;> (try rw [hb]) <;> (try simp only [bq, bz, dtrue, dfalse] at hb) <;> (try simp only [within] at hb) <;> try simp only [go_sem]) | refine And.intro (by first | exact ⟨⟩ | omega | (simp only [I64]; omega)) ?_ | (with_reducible rw [vc_draw_eq]; first | (refine CV.draw (id := 3) sF10n_f102_3 mixed rfl (by kernel_rfl) ?_; delta sF10n_f102_3)) | (simp only [go_sem, hlt', hjp, hg, gl, hy1, encN, List.length_map])))
      exact (by (first | exact wk_same (by simp only [go_sem, Int.natCast_add, cn, Int.cast_ofNat_Int, e1, e2, e3, hB1, hB2, hB3, hE]) | (refine wk_drop ?_ ?_ ?_ ?_ ?_ <;> simp only [go_sem, Int.natCast_add, cn, Int.cast_ofNat_Int, e1, e2, e3, hB1, hB2, hB3, hE])))
  · have hge' : ¬ (j : Int) < t.ts.length := by omega
    have : j = t.ts.length := by omega
    subst this
    (repeat' (first | ((with_reducible first | apply sg | apply si | apply sq | apply sd) <;> intro hb <;> (try rw [hb]) <;> (try simp only [bq, bz, dtrue, dfalse] at hb) <;> (try simp only [within] at hb) <;> try simp only [go_sem]) | refine And.intro (by first | exact ⟨⟩ | omega | (simp only [I64]; omega)) ?_ | (with_reducible rw [vc_draw_eq]; first | (refine CV.draw (id := 3) sF10n_f102_3 mixed rfl (by kernel_rfl) ?_; delta sF10n_f102_3)) | (simp only [go_sem, hge', gl])))
    exact ⟨[], rfl⟩
set_option maxHeartbeats 1000000 in
theorem c102_5 (t : Town) (b : Int) (h8 : t.ts.length ≤ 8) (hp : t.pl.length = t.ts.length) (B1 B2 B3 B4 B5 : Nat → Blk) (hB1 : ∀ j, belowB 6 (B1 j)) (hB2 : ∀ j, belowB 6 (B2 j)) (hB3 : ∀ j, belowB 6 (B3 j)) (hB4 : ∀ j, belowB 6 (B4 j)) (hB5 : ∀ j, belowB 6 (B5 j)) (l nt0 : Nat) (ps : Array Tmp) (assign body : Code) (env0 : Env) (hE : belowE 6 env0)
    (hy : ∀ j : Nat, j < t.ts.length → stays t b j → ∀ own, HCY Tryd.prog l [.int .i64 j, .agg (encG t j)] (B1 j :: B2 j :: B3 j :: B4 j :: B5 j :: .loop l nt0 ps assign body env0 :: own) fun r H2 => r = .bool true ∧ H2 = B1 (j + 1) :: B2 (j + 1) :: B3 (j + 1) :: B4 (j + 1) :: B5 (j + 1) :: .loop l nt0 ps assign body env0 :: own)
    (hno : ∀ j : Nat, j < t.ts.length → ¬ stays t b j → B1 (j + 1) = B1 j ∧ B2 (j + 1) = B2 j ∧ B3 (j + 1) = B3 j ∧ B4 (j + 1) = B4 j ∧ B5 (j + 1) = B5 j) :
    HCH Tryd.prog 102 [.yld l, .pp [hG t], .pp [.int .i64 b]] (B1 0 :: B2 0 :: B3 0 :: B4 0 :: B5 0 :: [.loop l nt0 ps assign body env0]) fun r H' => ∃ rest, H' = B1 t.ts.length :: B2 t.ts.length :: B3 t.ts.length :: B4 t.ts.length :: B5 t.ts.length :: .loop l nt0 ps assign body env0 :: rest := by
  have gl : (gs t t.ts.length).length = t.ts.length := gs_len
  refine HCH.body Tryd.func102 (by kernel_rfl) rfl (by simp [Tryd.f102]) ?_
  simp only [Tryd.f102]
  refine CV.run ?_
  (repeat' (first | ((with_reducible first | apply sg | apply si | apply sq | apply sd) <;> intro hb <;> (try rw [hb]) <;> (try simp only [bq, bz, dtrue, dfalse] at hb) <;> (try simp only [within] at hb) <;> try simp only [go_sem]) | refine And.intro (by first | exact ⟨⟩ | omega | (simp only [I64]; omega)) ?_ | (with_reducible rw [vc_draw_eq]; first | (refine CV.draw (id := 3) sF10n_f102_3 mixed rfl (by kernel_rfl) ?_; delta sF10n_f102_3)) | (simp only [go_sem, gl])))
  refine vc_for (fun j => ⟨[(11, .int .i64 j), (10, .int .i64 t.ts.length), (9, .lst false 3 (gs t t.ts.length)), (0, .yld l), (1, .pp [hG t]), (2, .pp [.int .i64 b])], B1 j :: B2 j :: B3 j :: B4 j :: B5 j :: [.loop l nt0 ps assign body env0]⟩) t.ts.length (fun _ => True) (by (first | exact wk_same (by simp only [go_sem, Int.natCast_add, cn, Int.cast_ofNat_Int, gl]) | (refine wk_drop ?_ ?_ ?_ ?_ ?_ <;> simp only [go_sem, Int.natCast_add, cn, Int.cast_ofNat_Int, gl]))) trivial ?_
  intro j hj _
  rcases Nat.lt_or_ge j t.ts.length with hlt | hge
  · have hlt' : (j : Int) < t.ts.length := by omega
    have hg := gs_get (t := t) hlt
    obtain ⟨y, hy1⟩ := get_of (l := t.pl) (j := j) (by omega)
    have ey := gv_nat hy1
    have hjp : (j : Int) < t.pl.length := by omega
    by_cases a1 : there t j
    · by_cases a2 : y = b
      · have hns : ¬ stays t b j := fun h => h.2 (by rw [ey]; exact a2)
        obtain ⟨e1, e2, e3, e4, e5⟩ := hno j hlt hns
        rw [encG, if_pos a1] at hg
        (repeat' (first | ((with_reducible first | apply sg | apply si | apply sq | apply sd) <;> intro hb <;> (try rw [hb]) <;> (try simp only [bq, bz, dtrue, dfalse] at hb) <;> (try simp only [within] at hb) <;> try simp only [go_sem]) | refine And.intro (by first | exact ⟨⟩ | omega | (simp only [I64]; omega)) ?_ | (with_reducible rw [vc_draw_eq]; first | (refine CV.draw (id := 3) sF10n_f102_3 mixed rfl (by kernel_rfl) ?_; delta sF10n_f102_3)) | (simp only [go_sem, hlt', hjp, hg, gl, hy1, a2, encN, List.length_map])))
        exact (by (first | exact wk_same (by simp only [go_sem, Int.natCast_add, cn, Int.cast_ofNat_Int, e1, e2, e3, e4, e5, hB1, hB2, hB3, hB4, hB5, hE]) | (refine wk_drop ?_ ?_ ?_ ?_ ?_ <;> simp only [go_sem, Int.natCast_add, cn, Int.cast_ofNat_Int, e1, e2, e3, e4, e5, hB1, hB2, hB3, hB4, hB5, hE])))
      · have hs : stays t b j := ⟨a1, by rw [ey]; exact a2⟩
        have hyy := hy j hlt hs
        rw [encG, if_pos a1] at hg hyy
        (repeat' (first | ((with_reducible first | apply sg | apply si | apply sq | apply sd) <;> intro hb <;> (try rw [hb]) <;> (try simp only [bq, bz, dtrue, dfalse] at hb) <;> (try simp only [within] at hb) <;> try simp only [go_sem]) | refine And.intro (by first | exact ⟨⟩ | omega | (simp only [I64]; omega)) ?_ | (with_reducible rw [vc_draw_eq]; first | (refine CV.draw (id := 3) sF10n_f102_3 mixed rfl (by kernel_rfl) ?_; delta sF10n_f102_3)) | (simp only [go_sem, hlt', hjp, hg, gl, hy1, a2, encN, List.length_map])))
        refine dCallY_mk ?_ (hyy [.box 89 [.int .i64 (pg t j), .int .i64 1, .int .u64 (msk (hasG t j) 3)] false]) ?_
        · (simp only [go_sem])
        (repeat' (first | ((with_reducible first | apply sg | apply si | apply sq | apply sd) <;> intro hb <;> (try rw [hb]) <;> (try simp only [bq, bz, dtrue, dfalse] at hb) <;> (try simp only [within] at hb) <;> try simp only [go_sem]) | refine And.intro (by first | exact ⟨⟩ | omega | (simp only [I64]; omega)) ?_ | (with_reducible rw [vc_draw_eq]; first | (refine CV.draw (id := 3) sF10n_f102_3 mixed rfl (by kernel_rfl) ?_; delta sF10n_f102_3)) | (simp only [go_sem, hlt', hjp, hg, gl, hy1, a2, encN, List.length_map])))
        all_goals exact (by (first | exact wk_same (by simp only [go_sem, Int.natCast_add, cn, Int.cast_ofNat_Int, hB1, hB2, hB3, hB4, hB5, hE]) | (refine wk_drop ?_ ?_ ?_ ?_ ?_ <;> simp only [go_sem, Int.natCast_add, cn, Int.cast_ofNat_Int, hB1, hB2, hB3, hB4, hB5, hE])))
    · have hns : ¬ stays t b j := fun h => a1 h.1
      obtain ⟨e1, e2, e3, e4, e5⟩ := hno j hlt hns
      rw [encG, if_neg a1] at hg
      (repeat' (first | ((with_reducible first | apply sg | apply si | apply sq | apply sd) <;> intro hb <;> (try rw [hb]) <;> (try simp only [bq, bz, dtrue, dfalse] at hb) <;> (try simp only [within] at hb) <;> try simp only [go_sem]) | refine And.intro (by first | exact ⟨⟩ | omega | (simp only [I64]; omega)) ?_ | (with_reducible rw [vc_draw_eq]; first | (refine CV.draw (id := 3) sF10n_f102_3 mixed rfl (by kernel_rfl) ?_; delta sF10n_f102_3)) | (simp only [go_sem, hlt', hjp, hg, gl, hy1, encN, List.length_map])))
      exact (by (first | exact wk_same (by simp only [go_sem, Int.natCast_add, cn, Int.cast_ofNat_Int, e1, e2, e3, e4, e5, hB1, hB2, hB3, hB4, hB5, hE]) | (refine wk_drop ?_ ?_ ?_ ?_ ?_ <;> simp only [go_sem, Int.natCast_add, cn, Int.cast_ofNat_Int, e1, e2, e3, e4, e5, hB1, hB2, hB3, hB4, hB5, hE])))
  · have hge' : ¬ (j : Int) < t.ts.length := by omega
    have : j = t.ts.length := by omega
    subst this
    (repeat' (first | ((with_reducible first | apply sg | apply si | apply sq | apply sd) <;> intro hb <;> (try rw [hb]) <;> (try simp only [bq, bz, dtrue, dfalse] at hb) <;> (try simp only [within] at hb) <;> try simp only [go_sem]) | refine And.intro (by first | exact ⟨⟩ | omega | (simp only [I64]; omega)) ?_ | (with_reducible rw [vc_draw_eq]; first | (refine CV.draw (id := 3) sF10n_f102_3 mixed rfl (by kernel_rfl) ?_; delta sF10n_f102_3)) | (simp only [go_sem, hge', gl])))
    exact ⟨[], rfl⟩
set_option maxHeartbeats 1000000 in
theorem c102_6 (t : Town) (b : Int) (h8 : t.ts.length ≤ 8) (hp : t.pl.length = t.ts.length) (B1 B2 B3 B4 B5 B6 : Nat → Blk) (hB1 : ∀ j, belowB 7 (B1 j)) (hB2 : ∀ j, belowB 7 (B2 j)) (hB3 : ∀ j, belowB 7 (B3 j)) (hB4 : ∀ j, belowB 7 (B4 j)) (hB5 : ∀ j, belowB 7 (B5 j)) (hB6 : ∀ j, belowB 7 (B6 j)) (l nt0 : Nat) (ps : Array Tmp) (assign body : Code) (env0 : Env) (hE : belowE 7 env0)
    (hy : ∀ j : Nat, j < t.ts.length → stays t b j → ∀ own, HCY Tryd.prog l [.int .i64 j, .agg (encG t j)] (B1 j :: B2 j :: B3 j :: B4 j :: B5 j :: B6 j :: .loop l nt0 ps assign body env0 :: own) fun r H2 => r = .bool true ∧ H2 = B1 (j + 1) :: B2 (j + 1) :: B3 (j + 1) :: B4 (j + 1) :: B5 (j + 1) :: B6 (j + 1) :: .loop l nt0 ps assign body env0 :: own)
    (hno : ∀ j : Nat, j < t.ts.length → ¬ stays t b j → B1 (j + 1) = B1 j ∧ B2 (j + 1) = B2 j ∧ B3 (j + 1) = B3 j ∧ B4 (j + 1) = B4 j ∧ B5 (j + 1) = B5 j ∧ B6 (j + 1) = B6 j) :
    HCH Tryd.prog 102 [.yld l, .pp [hG t], .pp [.int .i64 b]] (B1 0 :: B2 0 :: B3 0 :: B4 0 :: B5 0 :: B6 0 :: [.loop l nt0 ps assign body env0]) fun r H' => ∃ rest, H' = B1 t.ts.length :: B2 t.ts.length :: B3 t.ts.length :: B4 t.ts.length :: B5 t.ts.length :: B6 t.ts.length :: .loop l nt0 ps assign body env0 :: rest := by
  have gl : (gs t t.ts.length).length = t.ts.length := gs_len
  refine HCH.body Tryd.func102 (by kernel_rfl) rfl (by simp [Tryd.f102]) ?_
  simp only [Tryd.f102]
  refine CV.run ?_
  (repeat' (first | ((with_reducible first | apply sg | apply si | apply sq | apply sd) <;> intro hb <;> (try rw [hb]) <;> (try simp only [bq, bz, dtrue, dfalse] at hb) <;> (try simp only [within] at hb) <;> try simp only [go_sem]) | refine And.intro (by first | exact ⟨⟩ | omega | (simp only [I64]; omega)) ?_ | (with_reducible rw [vc_draw_eq]; first | (refine CV.draw (id := 3) sF10n_f102_3 mixed rfl (by kernel_rfl) ?_; delta sF10n_f102_3)) | (simp only [go_sem, gl])))
  refine vc_for (fun j => ⟨[(11, .int .i64 j), (10, .int .i64 t.ts.length), (9, .lst false 3 (gs t t.ts.length)), (0, .yld l), (1, .pp [hG t]), (2, .pp [.int .i64 b])], B1 j :: B2 j :: B3 j :: B4 j :: B5 j :: B6 j :: [.loop l nt0 ps assign body env0]⟩) t.ts.length (fun _ => True) (by (first | exact wk_same (by simp only [go_sem, Int.natCast_add, cn, Int.cast_ofNat_Int, gl]) | (refine wk_drop ?_ ?_ ?_ ?_ ?_ <;> simp only [go_sem, Int.natCast_add, cn, Int.cast_ofNat_Int, gl]))) trivial ?_
  intro j hj _
  rcases Nat.lt_or_ge j t.ts.length with hlt | hge
  · have hlt' : (j : Int) < t.ts.length := by omega
    have hg := gs_get (t := t) hlt
    obtain ⟨y, hy1⟩ := get_of (l := t.pl) (j := j) (by omega)
    have ey := gv_nat hy1
    have hjp : (j : Int) < t.pl.length := by omega
    by_cases a1 : there t j
    · by_cases a2 : y = b
      · have hns : ¬ stays t b j := fun h => h.2 (by rw [ey]; exact a2)
        obtain ⟨e1, e2, e3, e4, e5, e6⟩ := hno j hlt hns
        rw [encG, if_pos a1] at hg
        (repeat' (first | ((with_reducible first | apply sg | apply si | apply sq | apply sd) <;> intro hb <;> (try rw [hb]) <;> (try simp only [bq, bz, dtrue, dfalse] at hb) <;> (try simp only [within] at hb) <;> try simp only [go_sem]) | refine And.intro (by first | exact ⟨⟩ | omega | (simp only [I64]; omega)) ?_ | (with_reducible rw [vc_draw_eq]; first | (refine CV.draw (id := 3) sF10n_f102_3 mixed rfl (by kernel_rfl) ?_; delta sF10n_f102_3)) | (simp only [go_sem, hlt', hjp, hg, gl, hy1, a2, encN, List.length_map])))
        exact (by (first | exact wk_same (by simp only [go_sem, Int.natCast_add, cn, Int.cast_ofNat_Int, e1, e2, e3, e4, e5, e6, hB1, hB2, hB3, hB4, hB5, hB6, hE]) | (refine wk_drop ?_ ?_ ?_ ?_ ?_ <;> simp only [go_sem, Int.natCast_add, cn, Int.cast_ofNat_Int, e1, e2, e3, e4, e5, e6, hB1, hB2, hB3, hB4, hB5, hB6, hE])))
      · have hs : stays t b j := ⟨a1, by rw [ey]; exact a2⟩
        have hyy := hy j hlt hs
        rw [encG, if_pos a1] at hg hyy
        (repeat' (first | ((with_reducible first | apply sg | apply si | apply sq | apply sd) <;> intro hb <;> (try rw [hb]) <;> (try simp only [bq, bz, dtrue, dfalse] at hb) <;> (try simp only [within] at hb) <;> try simp only [go_sem]) | refine And.intro (by first | exact ⟨⟩ | omega | (simp only [I64]; omega)) ?_ | (with_reducible rw [vc_draw_eq]; first | (refine CV.draw (id := 3) sF10n_f102_3 mixed rfl (by kernel_rfl) ?_; delta sF10n_f102_3)) | (simp only [go_sem, hlt', hjp, hg, gl, hy1, a2, encN, List.length_map])))
        refine dCallY_mk ?_ (hyy [.box 89 [.int .i64 (pg t j), .int .i64 1, .int .u64 (msk (hasG t j) 3)] false]) ?_
        · (simp only [go_sem])
        (repeat' (first | ((with_reducible first | apply sg | apply si | apply sq | apply sd) <;> intro hb <;> (try rw [hb]) <;> (try simp only [bq, bz, dtrue, dfalse] at hb) <;> (try simp only [within] at hb) <;> try simp only [go_sem]) | refine And.intro (by first | exact ⟨⟩ | omega | (simp only [I64]; omega)) ?_ | (with_reducible rw [vc_draw_eq]; first | (refine CV.draw (id := 3) sF10n_f102_3 mixed rfl (by kernel_rfl) ?_; delta sF10n_f102_3)) | (simp only [go_sem, hlt', hjp, hg, gl, hy1, a2, encN, List.length_map])))
        all_goals exact (by (first | exact wk_same (by simp only [go_sem, Int.natCast_add, cn, Int.cast_ofNat_Int, hB1, hB2, hB3, hB4, hB5, hB6, hE]) | (refine wk_drop ?_ ?_ ?_ ?_ ?_ <;> simp only [go_sem, Int.natCast_add, cn, Int.cast_ofNat_Int, hB1, hB2, hB3, hB4, hB5, hB6, hE])))
    · have hns : ¬ stays t b j := fun h => a1 h.1
      obtain ⟨e1, e2, e3, e4, e5, e6⟩ := hno j hlt hns
      rw [encG, if_neg a1] at hg
      (repeat' (first | ((with_reducible first | apply sg | apply si | apply sq | apply sd) <;> intro hb <;> (try rw [hb]) <;> (try simp only [bq, bz, dtrue, dfalse] at hb) <;> (try simp only [within] at hb) <;> try simp only [go_sem]) | refine And.intro (by first | exact ⟨⟩ | omega | (simp only [I64]; omega)) ?_ | (with_reducible rw [vc_draw_eq]; first | (refine CV.draw (id := 3) sF10n_f102_3 mixed rfl (by kernel_rfl) ?_; delta sF10n_f102_3)) | (simp only [go_sem, hlt', hjp, hg, gl, hy1, encN, List.length_map])))
      exact (by (first | exact wk_same (by simp only [go_sem, Int.natCast_add, cn, Int.cast_ofNat_Int, e1, e2, e3, e4, e5, e6, hB1, hB2, hB3, hB4, hB5, hB6, hE]) | (refine wk_drop ?_ ?_ ?_ ?_ ?_ <;> simp only [go_sem, Int.natCast_add, cn, Int.cast_ofNat_Int, e1, e2, e3, e4, e5, e6, hB1, hB2, hB3, hB4, hB5, hB6, hE])))
  · have hge' : ¬ (j : Int) < t.ts.length := by omega
    have : j = t.ts.length := by omega
    subst this
    (repeat' (first | ((with_reducible first | apply sg | apply si | apply sq | apply sd) <;> intro hb <;> (try rw [hb]) <;> (try simp only [bq, bz, dtrue, dfalse] at hb) <;> (try simp only [within] at hb) <;> try simp only [go_sem]) | refine And.intro (by first | exact ⟨⟩ | omega | (simp only [I64]; omega)) ?_ | (with_reducible rw [vc_draw_eq]; first | (refine CV.draw (id := 3) sF10n_f102_3 mixed rfl (by kernel_rfl) ?_; delta sF10n_f102_3)) | (simp only [go_sem, hge', gl])))
    exact ⟨[], rfl⟩
end Go.Proofs.YtjlopclpofbgbaaDoor

