/- Contracts of functions of the given program, without a condition beyond those that each theorem states; they lead to the given statement. -/
import Derived.Test.YtoadkchhimojlaaGreatG04b
import Derived.Test.YtoadkchhimojlaaGreatFlC
set_option linter.unusedSimpArgs false
set_option linter.unusedVariables false
set_option maxRecDepth 100000
namespace Go.Proofs.YtoadkchhimojlaaGreat
open Go Go.Fl
open Classical
def sG04c_f93_4 : List (Nat × Nat) := [(0, 0), (0, 0), (0, 0), (0, 0), (0, 0), (0, 0)]
theorem perm_add {b : Nat} : ∀ {p : List (List Int)} {m : Nat}, m < p.length → (addB p m b).flatten.Perm ((b : Int) :: p.flatten)
  | [], m, h => by simp at h
  | l :: p, 0, h => by
    have e : addB (l :: p) 0 b = (l ++ [(b : Int)]) :: p := by simp [addB]
    rw [e, List.flatten_cons, List.flatten_cons, List.append_assoc]
    exact List.perm_middle
  | l :: p, m + 1, h => by
    have ih := perm_add (b := b) (p := p) (m := m) (by simpa using h)
    have e : addB (l :: p) (m + 1) b = l :: addB p m b := by simp [addB]
    rw [e, List.flatten_cons, List.flatten_cons]
    exact (List.Perm.append_left l ih).trans List.perm_middle
theorem usd_flat {p : List (List Int)} {i : Nat} : usd p i = true ↔ (i : Int) ∈ p.flatten := by
  rw [usd_iff, List.mem_flatten]
theorem nodup_add {p : List (List Int)} {m b : Nat} (hm : m < p.length) (hn : p.flatten.Nodup) (hu : usd p b = false) : (addB p m b).flatten.Nodup := by
  rw [(perm_add hm).nodup_iff, List.nodup_cons]
  exact ⟨fun h => (by rw [← usd_flat] at h; rw [h] at hu; cases hu), hn⟩
def cont (S : List Int) (i : Nat) : Bool := S.contains (i : Int)
theorem cont_add (S : List Int) (b i : Nat) : cont (S ++ [(b : Int)]) i = (cont S i || decide (i = b)) := by
  unfold cont
  rw [Bool.eq_iff_iff]
  simp only [List.contains_iff_mem, List.mem_append, List.mem_singleton, Bool.or_eq_true, decide_eq_true_eq, Int.natCast_inj]
theorem bs_cont_nil : bs (cont []) 5 = 0 := rfl
theorem c105 (h : House) (hk : okG h) (p : List (List Int)) (hq : okQ h.ms.length h.bs.length p) (hn : p.flatten.Nodup) : PC Tryz.prog 105 [hG h, lP p] (.bool true) := by
  obtain ⟨k1, k2, k3, k4, k5, k6, k7, k8⟩ := id hk
  have hpl := hq.len
  have hpl' : (p.length : Int) = h.ms.length := by omega
  refine PC.body Tryz.func105 (by kernel_rfl) rfl (by simp [Tryz.f105]) rfl ?_
  simp only [Tryz.f105]
  intro hlen
  simp only [go_sem, List.length_map, and_true, true_and] at hlen
  refine CV.run ?_
  (repeat' (first | ((with_reducible first | refine vcG_split ?_ ?_ | refine vcIf_split ?_ ?_ | refine vcQ_split ?_ ?_ | refine vcDG_split ?_ ?_) <;> intro hb <;> (try rw [hb]) <;> (try simp only [bq, bz, dtrue, dfalse] at hb) <;> (try simp only [within] at hb) <;> try (simp only [go_sem])) | refine And.intro (by first | exact trivial | omega | (simp only [I64]; omega)) ?_ | (simp only [go_sem])))
  refine vc_for (fun j => ⟨[(12, .int .i64 j), (11, .int .i64 p.length), (10, lP p), (1, lP p), (2, .lp 0 0), (5, .int .i64 (bs (cont (p.take j).flatten) 5 : Nat)), (4, .bool false)], [.box 26 (cG h) false]⟩) p.length (fun _ => True) (by (first | exact wk_same (by (simp only [go_sem, Int.natCast_add, cn, Int.cast_ofNat_Int, List.take_zero, List.flatten_nil, bs_cont_nil])) | (refine wk_drop ?_ ?_ ?_ ?_ ?_ <;> (simp only [go_sem, Int.natCast_add, cn, Int.cast_ofNat_Int, List.take_zero, List.flatten_nil, bs_cont_nil])))) trivial ?_
  intro j hj _
  rcases Nat.lt_or_ge j p.length with hlt | hge
  · obtain ⟨l, hl⟩ := get_of hlt
    have hlt' : (j : Int) < p.length := by omega
    have hsplit : p.flatten = (p.take j).flatten ++ (l ++ (p.drop (j + 1)).flatten) := by
      conv => lhs; rw [← List.take_append_drop j p, drop_cons' hl]
      rw [List.flatten_append, List.flatten_cons]
    have htk : (p.take (j + 1)).flatten = (p.take j).flatten ++ l := by
      rw [List.take_add_one, hl]; simp
    (repeat' (first | ((with_reducible first | refine vcG_split ?_ ?_ | refine vcIf_split ?_ ?_ | refine vcQ_split ?_ ?_ | refine vcDG_split ?_ ?_) <;> intro hb <;> (try rw [hb]) <;> (try simp only [bq, bz, dtrue, dfalse] at hb) <;> (try simp only [within] at hb) <;> try (simp only [go_sem, hlt', hl, encP])) | refine And.intro (by first | exact trivial | omega | (simp only [I64]; omega)) ?_ | (simp only [go_sem, hlt', hl, encP])))
    refine vc_for (fun i => ⟨[(18, .int .i64 i), (17, .int .i64 l.length), (16, lN l), (7, lN l), (12, .int .i64 j), (11, .int .i64 p.length), (10, lP p), (1, lP p), (2, .lp 0 0), (5, .int .i64 (bs (cont ((p.take j).flatten ++ l.take i)) 5 : Nat)), (4, .bool false)], [.box 26 (cG h) false]⟩) l.length (fun _ => True) (by (first | exact wk_same (by (simp only [go_sem, Int.natCast_add, cn, Int.cast_ofNat_Int, List.take_zero, List.append_nil])) | (refine wk_drop ?_ ?_ ?_ ?_ ?_ <;> (simp only [go_sem, Int.natCast_add, cn, Int.cast_ofNat_Int, List.take_zero, List.append_nil])))) trivial ?_
    intro i hi _
    rcases Nat.lt_or_ge i l.length with hlt2 | hge2
    · obtain ⟨b0, hb0⟩ := get_of hlt2
      have hlt2' : (i : Int) < l.length := by omega
      obtain ⟨y1, y2⟩ := hq.rng l (List.mem_of_getElem? hl) b0 (List.mem_of_getElem? hb0)
      obtain ⟨b, rfl⟩ : ∃ k : Nat, b0 = k := ⟨b0.toNat, by omega⟩
      have hi5 : b < 5 := by omega
      have hl5 := hq.short (List.mem_of_getElem? hl)
      have etk : (p.take j).flatten ++ l.take (i + 1) = ((p.take j).flatten ++ l.take i) ++ [(b : Int)] := by
        rw [List.take_add_one, hb0, List.append_assoc]; rfl
      have hnot : (b : Int) ∉ (p.take j).flatten ++ l.take i := by
        have e : p.flatten = ((p.take j).flatten ++ l.take i) ++ ((b : Int) :: (l.drop (i + 1) ++ (p.drop (j + 1)).flatten)) := by
          rw [hsplit]
          conv => lhs; rw [← List.take_append_drop i l, drop_cons' hb0]
          simp
        rw [e] at hn
        intro hm
        exact (List.nodup_append.1 hn).2.2 _ hm _ (by simp) rfl
      generalize hS : (p.take j).flatten ++ l.take i = S at *
      have hu : cont S b = false := by unfold cont; simpa using hnot
      have hU : bs (cont S) 5 < 32 := Nat.lt_of_lt_of_le (bs_lt (cont S) 5) (by decide)
      have hbit := bs_bit (f := cont S) hi5
      rw [hu, if_neg (by simp)] at hbit
      have a1 : ((bs (cont S) 5 : Nat) : Int) / 2 ^ b = ((bs (cont S) 5 / 2 ^ b : Nat) : Int) := by simp
      have a2 : bs (cont S) 5 / 2 ^ b ≤ bs (cont S) 5 := Nat.div_le_self _ _
      have a3 : (I64 ((bs (cont S) 5 / 2 ^ b : Nat) : Int)) = True := eq_true (by generalize bs (cont S) 5 / 2 ^ b = q at a2; unfold I64; omega)
      have a7 : (0 ≤ ((bs (cont S) 5 / 2 ^ b : Nat) : Int)) = True := eq_true (Int.natCast_nonneg _)
      have a4 : bs (cont S) 5 / 2 ^ b &&& 1 = bs (cont S) 5 / 2 ^ b % 2 := Nat.and_one_is_mod _
      have a5 : (I64 1) = True := eq_true (by unfold I64; omega)
      have b1 : (1 : Int) * 2 ^ b = ((2 ^ b : Nat) : Int) := by simp
      have b2 : bs (cont S) 5 ||| 2 ^ b = bs (cont (S ++ [(b : Int)])) 5 := by rw [bit_or _ hU _ hi5 hbit, bs_add hu (cont_add S b) 5 hi5]
      have b4 : 2 ^ b ≤ 16 := by
        have : b ≤ 4 := by omega
        exact Nat.pow_le_pow_right (n := 2) (by omega) this
      have b5 : (I64 ((2 ^ b : Nat) : Int)) = True := eq_true (by generalize 2 ^ b = q at b4; unfold I64; omega)
      have b8 : (0 ≤ ((2 ^ b : Nat) : Int)) = True := eq_true (Int.natCast_nonneg _)
      have b6 : (I64 ((bs (cont S) 5 : Nat) : Int)) = True := eq_true (by unfold I64; omega)
      have hw : within (b : Int) 0 ((h.bs.length : Int) - 1) = True := eq_true (by unfold within; omega)
      (repeat' (first | ((with_reducible first | refine vcG_split ?_ ?_ | refine vcIf_split ?_ ?_ | refine vcQ_split ?_ ?_ | refine vcDG_split ?_ ?_) <;> intro hb <;> (try rw [hb]) <;> (try simp only [bq, bz, dtrue, dfalse] at hb) <;> (try simp only [within] at hb) <;> try (simp only [go_sem, hlt2', hb0, encN, a1, a3, a4, a5, a7, hbit, b1, b2, b5, b6, b8, hw])) | refine And.intro (by first | exact trivial | omega | (simp only [I64]; omega)) ?_ | ((with_reducible first | refine vp (c85 _ _ _) ?_ ?_); focus (first | exact ⟨rfl, .inl ⟨by first | rfl | simp only [go_sem, hlt2', hb0, encN, a1, a3, a4, a5, a7, hbit, b1, b2, b5, b6, b8, hw, AV.pureL, AV.pure], by first | (simp only [go_sem, hlt2', hb0, encN, a1, a3, a4, a5, a7, hbit, b1, b2, b5, b6, b8, hw]; done) | rfl⟩⟩ | exact ⟨rfl, .inr ⟨rfl, by simp only [go_sem, hlt2', hb0, encN, a1, a3, a4, a5, a7, hbit, b1, b2, b5, b6, b8, hw]⟩⟩)) | (simp only [go_sem, hlt2', hb0, encN, a1, a3, a4, a5, a7, hbit, b1, b2, b5, b6, b8, hw])))
      all_goals first | exact (by (first | exact wk_same (by (simp only [go_sem, Int.natCast_add, cn, Int.cast_ofNat_Int, etk])) | (refine wk_drop ?_ ?_ ?_ ?_ ?_ <;> (simp only [go_sem, Int.natCast_add, cn, Int.cast_ofNat_Int, etk])))) | exact ⟨hlt2, by (first | exact wk_same (by (simp only [go_sem, Int.natCast_add, cn, Int.cast_ofNat_Int, etk])) | (refine wk_drop ?_ ?_ ?_ ?_ ?_ <;> (simp only [go_sem, Int.natCast_add, cn, Int.cast_ofNat_Int, etk])))⟩ | trace_state
    · have hge2' : ¬ (i : Int) < l.length := by omega
      have : i = l.length := by omega
      subst this
      (repeat' (first | ((with_reducible first | refine vcG_split ?_ ?_ | refine vcIf_split ?_ ?_ | refine vcQ_split ?_ ?_ | refine vcDG_split ?_ ?_) <;> intro hb <;> (try rw [hb]) <;> (try simp only [bq, bz, dtrue, dfalse] at hb) <;> (try simp only [within] at hb) <;> try (simp only [go_sem, hge2'])) | refine And.intro (by first | exact trivial | omega | (simp only [I64]; omega)) ?_ | (simp only [go_sem, hge2'])))
      all_goals first | exact (by (first | exact wk_same (by (simp only [go_sem, Int.natCast_add, cn, Int.cast_ofNat_Int, htk, List.take_length])) | (refine wk_drop ?_ ?_ ?_ ?_ ?_ <;> (simp only [go_sem, Int.natCast_add, cn, Int.cast_ofNat_Int, htk, List.take_length])))) | exact ⟨hlt, by (first | exact wk_same (by (simp only [go_sem, Int.natCast_add, cn, Int.cast_ofNat_Int, htk, List.take_length])) | (refine wk_drop ?_ ?_ ?_ ?_ ?_ <;> (simp only [go_sem, Int.natCast_add, cn, Int.cast_ofNat_Int, htk, List.take_length])))⟩ | trace_state
  · have hge' : ¬ (j : Int) < p.length := by omega
    have hge3 : ¬ (j : Int) < h.ms.length := by omega
    (repeat' (first | ((with_reducible first | refine vcG_split ?_ ?_ | refine vcIf_split ?_ ?_ | refine vcQ_split ?_ ?_ | refine vcDG_split ?_ ?_) <;> intro hb <;> (try rw [hb]) <;> (try simp only [bq, bz, dtrue, dfalse] at hb) <;> (try simp only [within] at hb) <;> try (simp only [go_sem, hge3, hpl'])) | refine And.intro (by first | exact trivial | omega | (simp only [I64]; omega)) ?_ | (simp only [go_sem, hge3, hpl'])))
theorem c104 (h : House) (hk : okG h) : PC Tryz.prog 104 [hG h, .bool true] (.int .i64 0) := by
  have h57 := c57 h
  rw [show checkG h = 0 from checkG0 ▸ hk] at h57
  refine PC.body Tryz.func104 (by kernel_rfl) rfl (by simp [Tryz.f104]) rfl ?_
  simp only [Tryz.f104]
  intro hlen
  simp only [go_sem, List.length_map, and_true, true_and] at hlen
  refine CV.run ?_
  (repeat' (first | ((with_reducible first | refine vcG_split ?_ ?_ | refine vcIf_split ?_ ?_ | refine vcQ_split ?_ ?_ | refine vcDG_split ?_ ?_) <;> intro hb <;> (try rw [hb]) <;> (try simp only [bq, bz, dtrue, dfalse] at hb) <;> (try simp only [within] at hb) <;> try (simp only [go_sem])) | refine And.intro (by first | exact trivial | omega | (simp only [I64]; omega)) ?_ | ((with_reducible first | refine vp h57 ?_ ?_); focus (first | exact ⟨rfl, .inl ⟨by first | rfl | simp only [go_sem, AV.pureL, AV.pure], by first | (simp only [go_sem]; done) | rfl⟩⟩ | exact ⟨rfl, .inr ⟨rfl, by simp only [go_sem]⟩⟩)) | (simp only [go_sem])))
theorem c93 (h : House) (hk : okG h) (p : List (List Int)) (hq : okQ h.ms.length h.bs.length p) (hn : p.flatten.Nodup) : PC Tryz.prog 93 [hG h, lP p] (.int .i64 0) := by
  have h57 := c57 h
  rw [show checkG h = 0 from checkG0 ▸ hk] at h57
  have h105 := c105 h hk p hq hn
  have h104 := c104 h hk
  refine PC.body Tryz.func93 (by kernel_rfl) rfl (by simp [Tryz.f93]) rfl ?_
  simp only [Tryz.f93]
  intro hlen
  simp only [go_sem, List.length_map, and_true, true_and] at hlen
  refine CV.run ?_
  (repeat' (first | ((with_reducible first | refine vcG_split ?_ ?_ | refine vcIf_split ?_ ?_ | refine vcQ_split ?_ ?_ | refine vcDG_split ?_ ?_) <;> intro hb <;> (try rw [hb]) <;> (try simp only [bq, bz, dtrue, dfalse] at hb) <;> (try simp only [within] at hb) <;> try (simp only [go_sem])) | refine And.intro (by first | exact trivial | omega | (simp only [I64]; omega)) ?_ | (with_reducible rw [vc_draw_eq]; first | (refine CV.draw (id := 4) sG04c_f93_4 mixed rfl (by kernel_rfl) ?_; delta sG04c_f93_4)) | ((with_reducible first | refine vp h57 ?_ ?_ | refine dc h57 ?_ ?_ | refine vp h105 ?_ ?_ | refine dc h105 ?_ ?_ | refine vp h104 ?_ ?_ | refine dc h104 ?_ ?_); focus (first | exact ⟨rfl, .inl ⟨by first | rfl | simp only [go_sem, AV.pureL, AV.pure], by first | (simp only [go_sem]; done) | rfl⟩⟩ | exact ⟨rfl, .inr ⟨rfl, by simp only [go_sem]⟩⟩)) | ((with_reducible first | refine dp h57 ?_ ?_ | refine dp h105 ?_ ?_ | refine dp h104 ?_ ?_); focus exact ⟨rfl, by first | rfl | simp only [go_sem, AV.pureL, AV.pure], by first | (simp only [go_sem]; done) | rfl⟩) | ((with_reducible first | refine ds h57 ?_ ?_ | refine ds h105 ?_ ?_ | refine ds h104 ?_ ?_); focus exact ⟨rfl, rfl⟩) | (simp only [go_sem])))
set_option maxHeartbeats 1000000 in
theorem h97 (s : Int) (h0 : 0 ≤ s) (h1 : s < 16) : HCH Tryz.prog 97 [.int .u64 s] [] fun r H' => r = .row 0 (bitsP s 4).length ∧ H' = [.row 3 1 ((bitsP s 4).map encN) false] := by
  refine HCH.body Tryz.func97 (by kernel_rfl) rfl (by simp [Tryz.f97]) ?_
  simp only [Tryz.f97]
  refine CV.run ?_
  (repeat' (first | ((with_reducible first | refine vcG_split ?_ ?_ | refine vcIf_split ?_ ?_ | refine vcQ_split ?_ ?_ | refine vcDG_split ?_ ?_) <;> intro hb <;> (try rw [hb]) <;> (try simp only [bq, bz, dtrue, dfalse] at hb) <;> (try simp only [within] at hb) <;> try (simp only [go_sem])) | refine And.intro (by first | exact trivial | omega | (simp only [I64]; omega)) ?_ | (simp only [go_sem])))
  refine vc_fw (fun j => ⟨[(5, .int .i64 j), (3, .row 0 (bitsP s j).length), (0, .int .u64 s)], [.row 3 1 ((bitsP s j).map encN) false]⟩) 4 (fun _ => True) (.nilE 3 3 1 rfl (by omega) (.base (by (first | exact wk_same (by (simp only [go_sem, Int.natCast_add, cn, Int.cast_ofNat_Int, bitsP, List.map_nil])) | (refine wk_drop ?_ ?_ ?_ ?_ ?_ <;> (simp only [go_sem, Int.natCast_add, cn, Int.cast_ofNat_Int, bitsP, List.map_nil])))))) trivial ?_
  intro j hj _
  rcases Nat.lt_or_ge j 4 with hlt | hge
  · have hlt' : (j : Int) < 4 := by omega
    have hl := bitsP_len s j
    have d0 : 0 ≤ s / 2 ^ j := Int.ediv_nonneg h0 (Int.le_of_lt (Int.pow_pos (by omega)))
    have d1 : s / 2 ^ j ≤ s := Int.ediv_le_self _ h0
    have u0 : U64 (s / 2 ^ j) = True := eq_true (by unfold U64; omega)
    have u1 : U64 1 = True := eq_true (by unfold U64; omega)
    have a1 := and1 d0
    by_cases hc : s / 2 ^ j % 2 = 1
    · have e : bitsP s (j + 1) = bitsP s j ++ [(j : Int)] := by rw [bitsP, if_pos hc]
      (repeat' (first | ((with_reducible first | refine vcG_split ?_ ?_ | refine vcIf_split ?_ ?_ | refine vcQ_split ?_ ?_ | refine vcDG_split ?_ ?_) <;> intro hb <;> (try rw [hb]) <;> (try simp only [bq, bz, dtrue, dfalse] at hb) <;> (try simp only [within] at hb) <;> try (simp only [go_sem, hlt', u0, u1, a1, hc, List.length_map])) | refine And.intro (by first | exact trivial | omega | (simp only [I64]; omega)) ?_ | (simp only [go_sem, hlt', u0, u1, a1, hc, List.length_map])))
      exact .base (by (first | exact wk_same (by (simp only [go_sem, Int.natCast_add, cn, Int.cast_ofNat_Int, e, List.map_append, List.length_append, encN])) | (refine wk_drop ?_ ?_ ?_ ?_ ?_ <;> (simp only [go_sem, Int.natCast_add, cn, Int.cast_ofNat_Int, e, List.map_append, List.length_append, encN]))))
    · have e : bitsP s (j + 1) = bitsP s j := by rw [bitsP, if_neg hc, List.append_nil]
      (repeat' (first | ((with_reducible first | refine vcG_split ?_ ?_ | refine vcIf_split ?_ ?_ | refine vcQ_split ?_ ?_ | refine vcDG_split ?_ ?_) <;> intro hb <;> (try rw [hb]) <;> (try simp only [bq, bz, dtrue, dfalse] at hb) <;> (try simp only [within] at hb) <;> try (simp only [go_sem, hlt', u0, u1, a1, hc, List.length_map])) | refine And.intro (by first | exact trivial | omega | (simp only [I64]; omega)) ?_ | (simp only [go_sem, hlt', u0, u1, a1, hc, List.length_map])))
      exact .base (by (first | exact wk_same (by (simp only [go_sem, Int.natCast_add, cn, Int.cast_ofNat_Int, e])) | (refine wk_drop ?_ ?_ ?_ ?_ ?_ <;> (simp only [go_sem, Int.natCast_add, cn, Int.cast_ofNat_Int, e]))))
  · have : j = 4 := by omega
    subst this
    (repeat' (first | ((with_reducible first | refine vcG_split ?_ ?_ | refine vcIf_split ?_ ?_ | refine vcQ_split ?_ ?_ | refine vcDG_split ?_ ?_) <;> intro hb <;> (try rw [hb]) <;> (try simp only [bq, bz, dtrue, dfalse] at hb) <;> (try simp only [within] at hb) <;> try (simp only [go_sem, List.length_map])) | refine And.intro (by first | exact trivial | omega | (simp only [I64]; omega)) ?_ | (simp only [go_sem, List.length_map])))
end Go.Proofs.YtoadkchhimojlaaGreat

