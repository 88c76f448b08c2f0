/- Contracts of functions of the given program, without a condition beyond those that each theorem states; they lead to the given statement. -/
import Derived.Test.YtoadkchhimojlaaGreatG02o
set_option linter.unusedSimpArgs false
set_option linter.unusedVariables false
set_option maxRecDepth 100000
namespace Go.Proofs.YtoadkchhimojlaaGreat.W2
open Go Go.Fl
open Classical
def pg (s : Shop) (k : Nat) : Int := match s.ms[k]? with | some m => m.page | none => 0
def nOf (s : Shop) (can : List Int) (k : Nat) (W : List Int) : Nat := (min (gv can k) (gv W (pg s k)) + 1).toNat
def jl (s : Shop) (can : List Int) : Nat → Nat → List Int → List Int → List (List Int)
  | 0, _, W, pre => if W.any (fun n => decide (0 < n)) = true then [] else [pre]
  | d + 1, k, W, pre => (List.range (nOf s can k W)).flatMap fun (n : Nat) => jl s can d (k + 1) (W.set (pg s k).toNat (gv W (pg s k) - (n : Int))) (pre ++ [(n : Int)])
def jlT (s : Shop) (can : List Int) (d k : Nat) (W pre : List Int) (j : Nat) : List (List Int) := (List.range j).flatMap fun (n : Nat) => jl s can d (k + 1) (W.set (pg s k).toNat (gv W (pg s k) - (n : Int))) (pre ++ [(n : Int)])
theorem jlT_zero {s : Shop} {can : List Int} {d k : Nat} {W pre : List Int} : jlT s can d k W pre 0 = [] := rfl
theorem jlT_succ {s : Shop} {can : List Int} {d k : Nat} {W pre : List Int} {j : Nat} : jlT s can d k W pre (j + 1) = jlT s can d k W pre j ++ jl s can d (k + 1) (W.set (pg s k).toNat (gv W (pg s k) - (j : Int))) (pre ++ [(j : Int)]) := by
  simp [jlT, List.range_succ]
def bstep (val : List Int → Int) (o : Option (List Int × Int)) (x : List Int) : Option (List Int × Int) := match o with
  | none => some (x, val x)
  | some b => if b.2 < val x then some (x, val x) else some b
def bst (val : List Int → Int) (L : List (List Int)) : Option (List Int × Int) := L.foldl (bstep val) none
theorem bst_app {val : List Int → Int} {L : List (List Int)} {x : List Int} : bst val (L ++ [x]) = bstep val (bst val L) x := by simp [bst, List.foldl_append]
def bB (val : List Int → Int) (L : List (List Int)) : List Int := match bst val L with | some b => b.1 | none => []
def bM (val : List Int → Int) (L : List (List Int)) : Int := match bst val L with | some b => b.2 | none => 0
def bF (val : List Int → Int) (L : List (List Int)) : Int := match bst val L with | some _ => 0 | none => 3
abbrev HB (val : List Int → Int) (can : List Int) (fv : AV) (L : List (List Int)) : Heap := [.box 86 (can.map I) false, .box 89 [fv] false, .box 24 [lN (bB val L)] false, .box 3 [.int .i64 (bM val L)] false, .box 34 [.int .i64 (bF val L)] false]
abbrev HW (cap : List AV) (l : Nat) (W SH : List Int) : Heap := [.box 123 [.yld l] false, .row 3 1 (W.map encN) false, .box 24 [.row 7 W.length] false, .row 3 1 (SH.map encN) false, .box 24 [.row 9 SH.length] false, .box 113 [.fn 79 cap] false]
abbrev cap8 (s : Shop) (can : List Int) : List AV := [.lp 10 0, .lp 8 0, .lp 6 0, .pp [.pp (cX s)], .pp (can.map I), .lp 11 0]
set_option maxHeartbeats 4000000 in
theorem h79 (s : Shop) (hv : valid s) (can : List Int) (hcan : can.length = 5) (hc12 : ∀ n, n ∈ can → 0 ≤ n ∧ n ≤ 12) (val : List Int → Int) (fv : AV) (hfv : ∀ n, belowV n fv = true) (l nt0 : Nat) (ps : Array Tmp) (assign body : Code) (env0 : Env) (henv0 : belowE 12 env0 = True)
    (hy : ∀ (L : List (List Int)) (W sh : List Int), sh.length = s.ms.length → (∀ n, n ∈ sh → 0 ≤ n ∧ n ≤ 12) → HCY Tryz.prog l [.row 9 sh.length] (HB val can fv L ++ .loop l nt0 ps assign body env0 :: HW (cap8 s can) l W sh) fun r H2 => r = .bool true ∧ H2 = HB val can fv (L ++ [sh]) ++ .loop l nt0 ps assign body env0 :: HW (cap8 s can) l W sh) :
    ∀ (d k : Nat) (W SH : List Int) (L : List (List Int)), k + d = s.ms.length → SH.length = s.ms.length → W.length = s.wt.length → (∀ n, n ∈ W → 0 ≤ n ∧ n ≤ 12) → (∀ n, n ∈ SH → 0 ≤ n ∧ n ≤ 12) →
      HCH Tryz.prog 79 (.int .i64 k :: cap8 s can) (HB val can fv L ++ .loop l nt0 ps assign body env0 :: HW (cap8 s can) l W SH) fun r H' => r = .bool true ∧ ∃ SH' : List Int, SH'.length = s.ms.length ∧ (∀ n, n ∈ SH' → 0 ≤ n ∧ n ≤ 12) ∧ SH'.take k = SH.take k ∧ H' = HB val can fv (L ++ jl s can d k W (SH.take k)) ++ .loop l nt0 ps assign body env0 :: HW (cap8 s can) l W SH' := by
  intro d
  have h5 := hv.2.1
  have h3 := hv.1
  induction d with
  | zero =>
    intro k W SH L hk hS hW hWb hSb
    have hks : k = SH.length := by omega
    subst hks
    have h87 := c58 W 80 (fun n => 0 < n) fun n _ => (c80 n).dec
    rw [List.take_length]
    refine HCH.body Tryz.func79 (by kernel_rfl) rfl (by simp [Tryz.f79]) ?_
    simp only [Tryz.f79]
    refine CV.run ?_
    by_cases hex : ∃ n, n ∈ W ∧ 0 < n
    · have e : jl s can 0 SH.length W SH = [] := if_pos (List.any_eq_true.2 (by obtain ⟨n, q1, q2⟩ := hex; exact ⟨n, q1, decide_eq_true q2⟩))
      rw [e, List.append_nil]
      (repeat' (first | ((first | with_reducible refine vcG_split ?_ ?_ | with_reducible refine vcIf_split ?_ ?_ | with_reducible refine vcQ_split ?_ ?_ | with_reducible refine vcDG_split ?_ ?_) <;> intro hb <;> (try rw [hb]) <;> (try simp only [Bool.and_eq_true, Bool.or_eq_true, dtrue, dfalse, Bool.not_eq_true', Bool.not_eq_false', Bool.and_eq_false_iff, Bool.or_eq_false_iff, Bool.not_true, Bool.not_false] at hb) <;> (try simp only [within] at hb) <;> try (simp only [go_sem, hex, argEnv, cap8, HW, HB])) | refine And.intro (by (first | exact trivial | (simp only [I64]; omega) | omega)) ?_ | (with_reducible rw [vc_draw_eq]; first | refine CV.draw (id := 5) [(0, 0), (0, 0), (0, 0), (0, 0), (0, 0), (0, 0), (0, 0), (0, 0), (0, 0), (0, 0)] mixed rfl (by kernel_rfl) ?_) | (first | (refine vcP_pure (h87) rfl ?_ ?_ ?_; (focus (first | rfl | ((simp only [go_sem, hex, argEnv, cap8, HW, HB, AV.pureL, AV.pure, pureL_mapI, Bool.and_self]) <;> fail))); (focus (first | ((simp only [go_sem, hex, argEnv, cap8, HW, HB]) <;> fail) | rfl))) | (refine dCallP_pure (h87) rfl ?_ ?_ ?_; (focus (first | rfl | ((simp only [go_sem, hex, argEnv, cap8, HW, HB, AV.pureL, AV.pure, pureL_mapI, Bool.and_self]) <;> fail))); (focus (first | ((simp only [go_sem, hex, argEnv, cap8, HW, HB]) <;> fail) | rfl))) | (refine dCallC_pure (h87) rfl ?_ ?_ ?_; (focus (first | rfl | ((simp only [go_sem, hex, argEnv, cap8, HW, HB, AV.pureL, AV.pure, pureL_mapI, Bool.and_self]) <;> fail))); (focus (first | ((simp only [go_sem, hex, argEnv, cap8, HW, HB]) <;> fail) | rfl))) | refine dCallC_safe (h87) rfl rfl (by (simp only [go_sem, hex, argEnv, cap8, HW, HB])) ?_ | refine vcP_safe (h87) rfl rfl (by (simp only [go_sem, hex, argEnv, cap8, HW, HB])) ?_ | refine dCallP_safe (h87) rfl rfl ?_) | (simp only [go_sem, hex, argEnv, cap8, HW, HB])))
      exact ⟨SH, hS, hSb, List.take_length, rfl⟩
    · have e : jl s can 0 SH.length W SH = [SH] := if_neg (fun h => hex (by obtain ⟨n, q1, q2⟩ := List.any_eq_true.1 h; exact ⟨n, q1, of_decide_eq_true q2⟩))
      rw [e]
      (repeat' (first | ((first | with_reducible refine vcG_split ?_ ?_ | with_reducible refine vcIf_split ?_ ?_ | with_reducible refine vcQ_split ?_ ?_ | with_reducible refine vcDG_split ?_ ?_) <;> intro hb <;> (try rw [hb]) <;> (try simp only [Bool.and_eq_true, Bool.or_eq_true, dtrue, dfalse, Bool.not_eq_true', Bool.not_eq_false', Bool.and_eq_false_iff, Bool.or_eq_false_iff, Bool.not_true, Bool.not_false] at hb) <;> (try simp only [within] at hb) <;> try (simp only [go_sem, hex, argEnv, cap8, HW, HB])) | refine And.intro (by (first | exact trivial | (simp only [I64]; omega) | omega)) ?_ | (with_reducible rw [vc_draw_eq]; first | refine CV.draw (id := 5) [(0, 0), (0, 0), (0, 0), (0, 0), (0, 0), (0, 0), (0, 0), (0, 0), (0, 0), (0, 0)] mixed rfl (by kernel_rfl) ?_) | (first | (refine vcP_pure (h87) rfl ?_ ?_ ?_; (focus (first | rfl | ((simp only [go_sem, hex, argEnv, cap8, HW, HB, AV.pureL, AV.pure, pureL_mapI, Bool.and_self]) <;> fail))); (focus (first | ((simp only [go_sem, hex, argEnv, cap8, HW, HB]) <;> fail) | rfl))) | (refine dCallP_pure (h87) rfl ?_ ?_ ?_; (focus (first | rfl | ((simp only [go_sem, hex, argEnv, cap8, HW, HB, AV.pureL, AV.pure, pureL_mapI, Bool.and_self]) <;> fail))); (focus (first | ((simp only [go_sem, hex, argEnv, cap8, HW, HB]) <;> fail) | rfl))) | (refine dCallC_pure (h87) rfl ?_ ?_ ?_; (focus (first | rfl | ((simp only [go_sem, hex, argEnv, cap8, HW, HB, AV.pureL, AV.pure, pureL_mapI, Bool.and_self]) <;> fail))); (focus (first | ((simp only [go_sem, hex, argEnv, cap8, HW, HB]) <;> fail) | rfl))) | refine dCallC_safe (h87) rfl rfl (by (simp only [go_sem, hex, argEnv, cap8, HW, HB])) ?_ | refine vcP_safe (h87) rfl rfl (by (simp only [go_sem, hex, argEnv, cap8, HW, HB])) ?_ | refine dCallP_safe (h87) rfl rfl ?_) | (simp only [go_sem, hex, argEnv, cap8, HW, HB])))
      refine vcY_exact (hy L W SH hS hSb) ?_
      (repeat' (first | ((first | with_reducible refine vcG_split ?_ ?_ | with_reducible refine vcIf_split ?_ ?_ | with_reducible refine vcQ_split ?_ ?_ | with_reducible refine vcDG_split ?_ ?_) <;> intro hb <;> (try rw [hb]) <;> (try simp only [Bool.and_eq_true, Bool.or_eq_true, dtrue, dfalse, Bool.not_eq_true', Bool.not_eq_false', Bool.and_eq_false_iff, Bool.or_eq_false_iff, Bool.not_true, Bool.not_false] at hb) <;> (try simp only [within] at hb) <;> try (simp only [go_sem, HW, HB, cap8, List.cons_append, List.nil_append])) | refine And.intro (by (first | exact trivial | (simp only [I64]; omega) | omega)) ?_ | (with_reducible rw [vc_draw_eq]; first | refine CV.draw (id := 5) [(0, 0), (0, 0), (0, 0), (0, 0), (0, 0), (0, 0), (0, 0), (0, 0), (0, 0), (0, 0)] mixed rfl (by kernel_rfl) ?_) | (simp only [go_sem, HW, HB, cap8, List.cons_append, List.nil_append])))
      exact ⟨SH, hS, hSb, List.take_length, rfl⟩
  | succ d ih =>
    intro k W SH L hk hS hW hWb hSb
    obtain ⟨m, hm⟩ := get_of (l := s.ms) (j := k) (by omega)
    have hpm := hv.mould hm
    obtain ⟨p, hp⟩ : ∃ p : Nat, m.page = p := ⟨m.page.toNat, by omega⟩
    have hpg : pg s k = p := by simp [pg, hm, hp]
    have hpl : p < W.length := by omega
    obtain ⟨wp, hwp⟩ := get_of hpl
    have hgw : gv W (p : Int) = wp := gv_nat hwp
    have hwb := hWb wp (List.mem_of_getElem? hwp)
    obtain ⟨cn, hcn⟩ := get_of (l := can) (j := k) (by omega)
    have hgc : gv can (k : Int) = cn := gv_nat hcn
    have hcb := hc12 cn (List.mem_of_getElem? hcn)
    have hkne : ¬ (k : Int) = SH.length := by omega
    have hkl : (k : Int) < s.ms.length := by omega
    have hk5 : (k : Int) < 5 := by omega
    have hpl' : (p : Int) < W.length := by omega
    have hjl : jl s can (d + 1) k W (SH.take k) = jlT s can d k W (SH.take k) (min cn wp + 1).toNat := by simp only [jl, nOf, hpg, hgc, hgw, jlT]
    have hjs : ∀ n, jlT s can d k W (SH.take k) (n + 1) = jlT s can d k W (SH.take k) n ++ jl s can d (k + 1) (W.set p (wp - n)) (SH.take k ++ [(n : Int)]) := fun n => by rw [jlT_succ, hpg, hgw, Int.toNat_natCast]
    rw [hjl]
    refine HCH.body Tryz.func79 (by kernel_rfl) rfl (by simp [Tryz.f79]) ?_
    simp only [Tryz.f79]
    refine CV.run ?_
    (repeat' (first | ((first | with_reducible refine vcG_split ?_ ?_ | with_reducible refine vcIf_split ?_ ?_ | with_reducible refine vcQ_split ?_ ?_ | with_reducible refine vcDG_split ?_ ?_) <;> intro hb <;> (try rw [hb]) <;> (try simp only [Bool.and_eq_true, Bool.or_eq_true, dtrue, dfalse, Bool.not_eq_true', Bool.not_eq_false', Bool.and_eq_false_iff, Bool.or_eq_false_iff, Bool.not_true, Bool.not_false] at hb) <;> (try simp only [within] at hb) <;> try (simp only [go_sem, hkne, hkl, hm, hp, encD, argEnv, cap8, HW, HB])) | refine And.intro (by (first | exact trivial | (simp only [I64]; omega) | omega)) ?_ | (with_reducible rw [vc_draw_eq]; first | refine CV.draw (id := 5) [(0, 0), (0, 0), (0, 0), (0, 0), (0, 0), (0, 0), (0, 0), (0, 0), (0, 0), (0, 0)] mixed rfl (by kernel_rfl) ?_) | (simp only [go_sem, hkne, hkl, hm, hp, encD, argEnv, cap8, HW, HB])))
    refine vc_fx (fun n SHx => ⟨[(10, .int .i64 n), (0, .int .i64 k), (1, .lp 10 0), (2, .lp 8 0), (5, .pp (can.map I)), (6, .lp 11 0), (8, .bool false), (9, .int .i64 p)], [.box 86 (can.map I) false, .box 89 [fv] false, .box 24 [lN (bB val (L ++ jlT s can d k W (SH.take k) n))] false, .box 3 [.int .i64 (bM val (L ++ jlT s can d k W (SH.take k) n))] false, .box 34 [.int .i64 (bF val (L ++ jlT s can d k W (SH.take k) n))] false, .loop l nt0 ps assign body env0, .box 123 [.yld l] false, .row 3 1 (W.map encN) false, .box 24 [.row 7 W.length] false, .row 3 1 (SHx.map encN) false, .box 24 [.row 9 SHx.length] false, .box 113 [.fn 79 (cap8 s can)] false]⟩) (min cn wp + 1).toNat (fun n SHx => SHx.length = s.ms.length ∧ (∀ n, n ∈ SHx → 0 ≤ n ∧ n ≤ 12) ∧ SHx.take k = SH.take k) SH (.base (by (first | exact wk_same (by (simp only [go_sem, Int.natCast_add, Int.natCast_one, Int.natCast_zero, Int.cast_ofNat_Int, jlT_zero, List.append_nil, hfv, henv0])) | exact wk_drop (by (simp only [go_sem, Int.natCast_add, Int.natCast_one, Int.natCast_zero, Int.cast_ofNat_Int, jlT_zero, List.append_nil, hfv, henv0])) (by (simp only [go_sem, Int.natCast_add, Int.natCast_one, Int.natCast_zero, Int.cast_ofNat_Int, jlT_zero, List.append_nil, hfv, henv0])) (by (simp only [go_sem, Int.natCast_add, Int.natCast_one, Int.natCast_zero, Int.cast_ofNat_Int, jlT_zero, List.append_nil, hfv, henv0])) (by (simp only [go_sem, Int.natCast_add, Int.natCast_one, Int.natCast_zero, Int.cast_ofNat_Int, jlT_zero, List.append_nil, hfv, henv0])) (by (simp only [go_sem, Int.natCast_add, Int.natCast_one, Int.natCast_zero, Int.cast_ofNat_Int, jlT_zero, List.append_nil, hfv, henv0]))))) ⟨hS, hSb, rfl⟩ ?_
    intro n SHx hn hx
    obtain ⟨x1, x2, x3⟩ := hx
    have hkx : k < SHx.length := by omega
    have hkx' : (k : Int) < SHx.length := by omega
    obtain ⟨y, hxk⟩ := get_of hkx
    rcases Nat.lt_or_ge n (min cn wp + 1).toNat with hlt | hge
    · have hle : (n : Int) ≤ min cn wp := by omega
      have hset : ∀ (l : List Int) (i : Nat) (v : Int), (∀ n, n ∈ l → 0 ≤ n ∧ n ≤ 12) → 0 ≤ v ∧ v ≤ 12 → ∀ n, n ∈ l.set i v → 0 ≤ n ∧ n ≤ 12 := fun l i v h1 h2 n hn => by
        rcases List.mem_or_eq_of_mem_set hn with h | h
        · exact h1 n h
        · rw [h]; exact h2
      have htk : (SHx.set k (n : Int)).take (k + 1) = SH.take k ++ [(n : Int)] := by
        rw [List.take_add_one, List.getElem?_set_self hkx, List.take_set_of_le (Nat.le_refl _), x3]; rfl
      have ihh := ih (k + 1) (W.set p (wp - n)) (SHx.set k n) (L ++ jlT s can d k W (SH.take k) n) (by omega) (by rw [List.length_set]; exact x1) (by rw [List.length_set]; exact hW) (hset _ _ _ hWb (by omega)) (hset _ _ _ x2 (by omega))
      rw [htk, List.append_assoc, ← hjs] at ihh
      simp only [List.map_set, encN, List.length_set, HB, HW, cap8, List.cons_append, List.nil_append, Int.natCast_add, Int.natCast_one] at ihh
      have hr1 : ((List.map encN W).set p [AV.int .i64 (wp - n)])[p]? = some [AV.int .i64 (wp - n)] := List.getElem?_set_self (by simpa using hpl)
      have hr2 : (List.map encN W).set p [AV.int .i64 (wp - n + n)] = List.map encN W := by
        rw [show wp - (n : Int) + n = wp from by omega]
        apply List.ext_getElem?
        intro j
        rw [List.getElem?_set]
        by_cases h : p = j
        · subst h; rw [if_pos rfl, if_pos (by simpa using hpl), List.getElem?_map, hwp]; rfl
        · rw [if_neg h]
      (repeat' (first | ((first | with_reducible refine vcG_split ?_ ?_ | with_reducible refine vcIf_split ?_ ?_ | with_reducible refine vcQ_split ?_ ?_ | with_reducible refine vcDG_split ?_ ?_) <;> intro hb <;> (try rw [hb]) <;> (try simp only [Bool.and_eq_true, Bool.or_eq_true, dtrue, dfalse, Bool.not_eq_true', Bool.not_eq_false', Bool.and_eq_false_iff, Bool.or_eq_false_iff, Bool.not_true, Bool.not_false] at hb) <;> (try simp only [within] at hb) <;> try (simp only [go_sem, hle, hk5, hcn, hwp, hpl', hkx', hxk, encN, getI, drop_head, Option.map_some, I, Nat.mul_one, cap8, List.length_set, List.length_map])) | refine And.intro (by (first | exact trivial | (simp only [I64]; omega) | omega)) ?_ | (with_reducible rw [vc_draw_eq]; first | refine CV.draw (id := 5) [(0, 0), (0, 0), (0, 0), (0, 0), (0, 0), (0, 0), (0, 0), (0, 0), (0, 0), (0, 0)] mixed rfl (by kernel_rfl) ?_) | (simp only [go_sem, hle, hk5, hcn, hwp, hpl', hkx', hxk, encN, getI, drop_head, Option.map_some, I, Nat.mul_one, cap8, List.length_set, List.length_map])))
      refine vcP_here ihh ?_
      rintro r H' ⟨rfl, SH', y1, y2, y3, rfl⟩
      have y4 : SH'.take k = SH.take k := by
        have hkk : (SH.take k).length = k := by rw [List.length_take]; omega
        have := congrArg (List.take k) y3
        rw [List.take_take, Nat.min_eq_left (by omega), List.take_left' hkk] at this
        exact this
      (repeat' (first | ((first | with_reducible refine vcG_split ?_ ?_ | with_reducible refine vcIf_split ?_ ?_ | with_reducible refine vcQ_split ?_ ?_ | with_reducible refine vcDG_split ?_ ?_) <;> intro hb <;> (try rw [hb]) <;> (try simp only [Bool.and_eq_true, Bool.or_eq_true, dtrue, dfalse, Bool.not_eq_true', Bool.not_eq_false', Bool.and_eq_false_iff, Bool.or_eq_false_iff, Bool.not_true, Bool.not_false] at hb) <;> (try simp only [within] at hb) <;> try (simp only [go_sem, encN, hr1, hr2, List.set_set, hpl', cap8, List.length_set, List.length_map])) | refine And.intro (by (first | exact trivial | (simp only [I64]; omega) | omega)) ?_ | (with_reducible rw [vc_draw_eq]; first | refine CV.draw (id := 5) [(0, 0), (0, 0), (0, 0), (0, 0), (0, 0), (0, 0), (0, 0), (0, 0), (0, 0), (0, 0)] mixed rfl (by kernel_rfl) ?_) | (simp only [go_sem, encN, hr1, hr2, List.set_set, hpl', cap8, List.length_set, List.length_map])))
      exact ⟨SH', hlt, .base (by (first | exact wk_same (by (simp only [go_sem, Int.natCast_add, Int.natCast_one, Int.natCast_zero, Int.cast_ofNat_Int, hfv, henv0, cap8])) | exact wk_drop (by (simp only [go_sem, Int.natCast_add, Int.natCast_one, Int.natCast_zero, Int.cast_ofNat_Int, hfv, henv0, cap8])) (by (simp only [go_sem, Int.natCast_add, Int.natCast_one, Int.natCast_zero, Int.cast_ofNat_Int, hfv, henv0, cap8])) (by (simp only [go_sem, Int.natCast_add, Int.natCast_one, Int.natCast_zero, Int.cast_ofNat_Int, hfv, henv0, cap8])) (by (simp only [go_sem, Int.natCast_add, Int.natCast_one, Int.natCast_zero, Int.cast_ofNat_Int, hfv, henv0, cap8])) (by (simp only [go_sem, Int.natCast_add, Int.natCast_one, Int.natCast_zero, Int.cast_ofNat_Int, hfv, henv0, cap8])))), y1, y2, y4⟩
    · have hle : ¬ (n : Int) ≤ min cn wp := by omega
      have : n = (min cn wp + 1).toNat := by omega
      subst this
      (repeat' (first | ((first | with_reducible refine vcG_split ?_ ?_ | with_reducible refine vcIf_split ?_ ?_ | with_reducible refine vcQ_split ?_ ?_ | with_reducible refine vcDG_split ?_ ?_) <;> intro hb <;> (try rw [hb]) <;> (try simp only [Bool.and_eq_true, Bool.or_eq_true, dtrue, dfalse, Bool.not_eq_true', Bool.not_eq_false', Bool.and_eq_false_iff, Bool.or_eq_false_iff, Bool.not_true, Bool.not_false] at hb) <;> (try simp only [within] at hb) <;> try (simp only [go_sem, hle, hk5, hcn, hwp, hpl', hkx', encN, getI, drop_head, Option.map_some, I, Nat.mul_one, cap8])) | refine And.intro (by (first | exact trivial | (simp only [I64]; omega) | omega)) ?_ | (with_reducible rw [vc_draw_eq]; first | refine CV.draw (id := 5) [(0, 0), (0, 0), (0, 0), (0, 0), (0, 0), (0, 0), (0, 0), (0, 0), (0, 0), (0, 0)] mixed rfl (by kernel_rfl) ?_) | (simp only [go_sem, hle, hk5, hcn, hwp, hpl', hkx', encN, getI, drop_head, Option.map_some, I, Nat.mul_one, cap8])))
      exact ⟨SHx, x1, x2, x3, rfl⟩
end Go.Proofs.YtoadkchhimojlaaGreat.W2

