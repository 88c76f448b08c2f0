/- Contracts of functions of the given program, without a condition beyond those that each theorem states; they lead to the given statement. -/
import Derived.Test.YtoadkchhimojlaaGreatG04d
set_option linter.unusedSimpArgs false
set_option linter.unusedVariables false
set_option maxRecDepth 100000
namespace Go.Proofs.YtoadkchhimojlaaGreat
open Go Go.Fl
open Classical
def sG04e_f68_8 : List (Nat × Nat) := [(0, 0), (0, 0), (0, 0), (0, 0), (0, 0), (0, 0), (0, 0), (0, 0), (0, 0), (0, 0), (0, 0), (0, 0), (0, 0), (0, 0), (0, 0)]
def sG04e_f68_11 : List (Nat × Nat) := [(0, 0), (0, 0), (0, 0), (0, 0), (0, 0), (0, 0), (0, 0), (0, 0), (0, 0), (0, 0)]
def setPg (bo : Nat) : List Int → List Int → List Int
  | [], s => s
  | g :: r, s => setPg bo r (s.set (g.toNat * 3 + bo) 1)
def edP (a : Hall) (b : Int) : List Int := ((a.es[((bunG a.hs b).ed).toNat]?).getD [])
def ownL (a : Hall) (bo : Nat) : List Int → List Int → List Int
  | [], s => s
  | b :: l, s => ownL a bo l (setPg bo (edP a b) s)
def boN (a : Hall) (m : Nat) : Nat := (gv a.bo m).toNat
def needF (a : Hall) : Nat → List (List Int) → List Int → List Int
  | _, [], s => s
  | m, l :: p, s => needF a (m + 1) p (zipS (fun x y => x + y) s (ownL a (boN a m) l zer12))
def needS (a : Hall) (p : List (List Int)) : List Int := needF a 0 p zer12
def okS (s : List Int) (k : Int) : Prop := s.length = 12 ∧ ∀ x, x ∈ s → 0 ≤ x ∧ x ≤ k
theorem okS.zero : okS zer12 0 := ⟨rfl, by decide⟩
theorem okS.set {s : List Int} {k : Int} (h : okS s k) (hk : 1 ≤ k) (i : Nat) : okS (s.set i 1) k := ⟨by simpa using h.1, fun x hx => by
  rcases List.mem_or_eq_of_mem_set hx with hx | rfl
  · exact h.2 x hx
  · omega⟩
theorem okS.mono {s : List Int} {k k' : Int} (h : okS s k) (hk : k ≤ k') : okS s k' := ⟨h.1, fun x hx => by have := h.2 x hx; omega⟩
theorem mem_zip {φ : Int → Int → Int} {x : Int} : ∀ {s t : List Int}, x ∈ zipS φ s t → ∃ a b, a ∈ s ∧ b ∈ t ∧ x = φ a b
  | [], _, h => by simp [zipS] at h
  | _ :: _, [], h => by simp [zipS] at h
  | a :: s, b :: t, h => by
    simp only [zipS, List.zipWith_cons_cons, List.mem_cons] at h
    rcases h with rfl | h
    · exact ⟨a, b, by simp, by simp, rfl⟩
    · obtain ⟨c, d, h1, h2, h3⟩ := mem_zip (s := s) (t := t) h
      exact ⟨c, d, by simp [h1], by simp [h2], h3⟩
theorem okS.add {s t : List Int} {k k' : Int} (h : okS s k) (h' : okS t k') : okS (zipS (fun x y => x + y) s t) (k + k') := ⟨zipS_len h.1 h'.1, fun x hx => by
  obtain ⟨a, b, h1, h2, rfl⟩ := mem_zip hx
  have := h.2 a h1; have := h'.2 b h2; omega⟩
theorem okS.max {s t : List Int} {k : Int} (h : okS s k) (h' : okS t k) : okS (zipS max s t) k := ⟨zipS_len h.1 h'.1, fun x hx => by
  obtain ⟨a, b, h1, h2, rfl⟩ := mem_zip hx
  have := h.2 a h1; have := h'.2 b h2; omega⟩
theorem okS.setPg {k : Int} (hk : 1 ≤ k) (bo : Nat) : ∀ (l s : List Int), okS s k → okS (Go.Proofs.YtoadkchhimojlaaGreat.setPg bo l s) k
  | [], _, h => h
  | _ :: l, _, h => okS.setPg hk bo l _ (h.set hk _)
theorem okS.ownL {k : Int} (hk : 1 ≤ k) (a : Hall) (bo : Nat) : ∀ (l s : List Int), okS s k → okS (Go.Proofs.YtoadkchhimojlaaGreat.ownL a bo l s) k
  | [], _, h => h
  | _ :: l, _, h => okS.ownL hk a bo l _ (h.setPg hk bo _ _)
theorem okS.needF (a : Hall) : ∀ (p : List (List Int)) (m : Nat) (s : List Int) (k : Int), okS s k → okS (Go.Proofs.YtoadkchhimojlaaGreat.needF a m p s) (k + p.length)
  | [], _, _, _, h => h.mono (by simp)
  | l :: p, m, s, k, h => by
    have h1 := okS.needF a p (m + 1) _ _ (h.add (okS.ownL (by omega) a (boN a m) l _ (okS.zero.mono (show (0 : Int) ≤ 1 by omega))))
    have e : k + 1 + (p.length : Int) = k + ((l :: p).length : Nat) := by simp; omega
    rw [e] at h1
    exact h1
theorem okS.needS (a : Hall) (p : List (List Int)) : okS (Go.Proofs.YtoadkchhimojlaaGreat.needS a p) p.length := by
  have := okS.needF a p 0 _ _ okS.zero
  rw [Int.zero_add] at this
  exact this
theorem zer12_I : zer12.map I = [.int .i64 0, .int .i64 0, .int .i64 0, .int .i64 0, .int .i64 0, .int .i64 0, .int .i64 0, .int .i64 0, .int .i64 0, .int .i64 0, .int .i64 0, .int .i64 0] := rfl
theorem edP_of {a : Hall} {b : Nat} {x : Bun} {e : List Int} (hx : a.hs.bs[b]? = some x) (h0 : 0 ≤ x.ed) (he : a.es[x.ed.toNat]? = some e) : edP a b = e := by
  unfold edP bunG; simp [hx, he]
set_option maxHeartbeats 4000000 in
theorem c68 (a : Hall) (ha : okH a) (p : List (List Int)) (hp : okP a.hs p) : PC Tryz.prog 68 [hH a, lP p] (.agg ((needS a p).map I)) := by
  obtain ⟨hk, b1, b2, b3, b4, b5⟩ := id ha
  obtain ⟨k1, k2, k3, k4, k5, k6, k7, k8⟩ := id hk
  obtain ⟨p1, p2⟩ := hp
  refine PC.body Tryz.func68 (by kernel_rfl) rfl (by simp [Tryz.f68]) (pureL_mapI _) ?_
  simp only [Tryz.f68]
  intro hlen
  simp only [go_sem, List.length_map, and_true, true_and] at hlen
  refine CV.run ?_
  (repeat' (first | ((with_reducible first | refine vcG_split ?_ ?_ | refine vcIf_split ?_ ?_ | refine vcQ_split ?_ ?_ | refine vcDG_split ?_ ?_) <;> intro hb <;> (try rw [hb]) <;> (try simp only [bq, bz, dtrue, dfalse] at hb) <;> (try simp only [within] at hb) <;> try (simp only [go_sem])) | refine And.intro (by first | exact trivial | omega | (simp only [I64]; omega)) ?_ | (with_reducible rw [vc_draw_eq]; first | (refine CV.draw (id := 8) sG04e_f68_8 mixed rfl (by kernel_rfl) ?_; delta sG04e_f68_8) | (refine CV.draw (id := 11) sG04e_f68_11 mixed rfl (by kernel_rfl) ?_; delta sG04e_f68_11)) | (simp only [go_sem])))
  refine vc_fx (fun j (s : List Int) => ⟨[(14, .int .i64 j), (13, .int .i64 p.length), (12, lP p), (2, .lp 0 0), (4, .lp 1 0)], [.box 64 (cH a) false, .box 69 (s.map I) false]⟩) p.length (fun j s => okS s j ∧ needF a j (p.drop j) s = needS a p) zer12 (.base (by (first | exact wk_same (by (simp only [go_sem, Int.natCast_add, cn, Int.cast_ofNat_Int, zer12_I])) | (refine wk_drop ?_ ?_ ?_ ?_ ?_ <;> (simp only [go_sem, Int.natCast_add, cn, Int.cast_ofNat_Int, zer12_I]))))) ⟨okS.zero, rfl⟩ ?_
  intro j s hj ⟨hs, hx⟩
  have hsl := hs.1
  have s12 : (s.map I).length = 12 := by simp [hsl]
  rcases Nat.lt_or_ge j p.length with hlt | hge
  · obtain ⟨l, hl⟩ := get_of hlt
    have hlt' : (j : Int) < p.length := by omega
    obtain ⟨q1, q2⟩ := p2 l (List.mem_of_getElem? hl)
    obtain ⟨bo, hbo⟩ := get_of (l := a.bo) (j := j) (by omega)
    have hbr := b3 bo (List.mem_of_getElem? hbo)
    unfold within at hbr
    obtain ⟨bn, rfl⟩ : ∃ k : Nat, bo = k := ⟨bo.toNat, by omega⟩
    have ebo : boN a j = bn := by unfold boN; rw [gv_nat hbo]; simp
    have hjb : (j : Int) < a.bo.length := by omega
    have hb3 : (bn : Int) < 3 := by omega
    rw [drop_cons' hl, needF, ebo] at hx
    (repeat' (first | ((with_reducible first | refine vcG_split ?_ ?_ | refine vcIf_split ?_ ?_ | refine vcQ_split ?_ ?_ | refine vcDG_split ?_ ?_) <;> intro hb <;> (try rw [hb]) <;> (try simp only [bq, bz, dtrue, dfalse] at hb) <;> (try simp only [within] at hb) <;> try (simp only [go_sem, hlt', hl, encP, s12, allOne_mapI])) | refine And.intro (by first | exact trivial | omega | (simp only [I64]; omega)) ?_ | (with_reducible rw [vc_draw_eq]; first | (refine CV.draw (id := 8) sG04e_f68_8 mixed rfl (by kernel_rfl) ?_; delta sG04e_f68_8) | (refine CV.draw (id := 11) sG04e_f68_11 mixed rfl (by kernel_rfl) ?_; delta sG04e_f68_11)) | (simp only [go_sem, hlt', hl, encP, s12, allOne_mapI])))
    refine vc_fx (fun i (o : List Int) => ⟨[(21, .int .i64 i), (20, .int .i64 l.length), (19, lN l), (5, .int .i64 j), (7, .lp 2 0), (14, .int .i64 j), (13, .int .i64 p.length), (12, lP p), (2, .lp 0 0), (4, .lp 1 0)], [.box 64 (cH a) false, .box 69 (s.map I) false, .box 69 (o.map I) false]⟩) l.length (fun i o => okS o 1 ∧ ownL a bn (l.drop i) o = ownL a bn l zer12) zer12 (.base (by (first | exact wk_same (by (simp only [go_sem, Int.natCast_add, cn, Int.cast_ofNat_Int, zer12_I])) | (refine wk_drop ?_ ?_ ?_ ?_ ?_ <;> (simp only [go_sem, Int.natCast_add, cn, Int.cast_ofNat_Int, zer12_I]))))) ⟨okS.zero.mono (by omega), rfl⟩ ?_
    intro i o hi ⟨ho, hy⟩
    rcases Nat.lt_or_ge i l.length with hlt2 | hge2
    · obtain ⟨b0, hb0⟩ := get_of hlt2
      have hlt2' : (i : Int) < l.length := by omega
      obtain ⟨y1, y2⟩ := q2 b0 (List.mem_of_getElem? hb0)
      obtain ⟨b, rfl⟩ : ∃ k : Nat, b0 = k := ⟨b0.toNat, by omega⟩
      obtain ⟨x, hxx⟩ := get_of (l := a.hs.bs) (j := b) (by omega)
      have hxm := List.mem_of_getElem? hxx
      have hed := (k8 x hxm).2.2
      unfold within at hed
      have hed2 := b5 x hxm
      obtain ⟨e, he⟩ := get_of (l := a.es) (j := x.ed.toNat) (by omega)
      have hri := b4 e (List.mem_of_getElem? he)
      have he4 := rise_le (i := e.length) fun k hk => hri k hk
      have heP := edP_of hxx hed.1 he
      rw [drop_cons' hb0, ownL, heP] at hy
      have hyk : (b : Int) < a.hs.bs.length := by omega
      (repeat' (first | ((with_reducible first | refine vcG_split ?_ ?_ | refine vcIf_split ?_ ?_ | refine vcQ_split ?_ ?_ | refine vcDG_split ?_ ?_) <;> intro hb <;> (try rw [hb]) <;> (try simp only [bq, bz, dtrue, dfalse] at hb) <;> (try simp only [within] at hb) <;> try (simp only [go_sem, hlt2', hb0, hyk, hxx, hed.1, hed2, he, encN, encB, encP])) | refine And.intro (by first | exact trivial | omega | (simp only [I64]; omega)) ?_ | (with_reducible rw [vc_draw_eq]; first | (refine CV.draw (id := 8) sG04e_f68_8 mixed rfl (by kernel_rfl) ?_; delta sG04e_f68_8) | (refine CV.draw (id := 11) sG04e_f68_11 mixed rfl (by kernel_rfl) ?_; delta sG04e_f68_11)) | (simp only [go_sem, hlt2', hb0, hyk, hxx, hed.1, hed2, he, encN, encB, encP])))
      refine vc_fx (fun q (u : List Int) => ⟨[(39, .int .i64 q), (38, .int .i64 e.length), (37, lN e), (21, .int .i64 i), (20, .int .i64 l.length), (19, lN l), (5, .int .i64 j), (7, .lp 2 0), (14, .int .i64 j), (13, .int .i64 p.length), (12, lP p), (2, .lp 0 0), (4, .lp 1 0)], [.box 64 (cH a) false, .box 69 (s.map I) false, .box 69 (u.map I) false]⟩) e.length (fun q u => okS u 1 ∧ setPg bn (e.drop q) u = setPg bn e o) o (.base (by (first | exact wk_same (by (simp only [go_sem, Int.natCast_add, cn, Int.cast_ofNat_Int])) | (refine wk_drop ?_ ?_ ?_ ?_ ?_ <;> (simp only [go_sem, Int.natCast_add, cn, Int.cast_ofNat_Int]))))) ⟨ho, rfl⟩ ?_
      intro q u hqe ⟨hu, hz⟩
      have hul := hu.1
      rcases Nat.lt_or_ge q e.length with hlt3 | hge3
      · obtain ⟨g0, hg0, hgw, _⟩ := hri q hlt3
        unfold within at hgw
        have hlt3' : (q : Int) < e.length := by omega
        obtain ⟨g, rfl⟩ : ∃ k : Nat, g0 = k := ⟨g0.toNat, by omega⟩
        have hg4 : (g : Int) < 4 := by omega
        have hoff : g * 3 + bn < u.length := by omega
        have hoff2 : g * 3 + bn + 1 ≤ 12 := by omega
        rw [drop_cons' hg0, setPg, Int.toNat_natCast] at hz
        (repeat' (first | ((with_reducible first | refine vcG_split ?_ ?_ | refine vcIf_split ?_ ?_ | refine vcQ_split ?_ ?_ | refine vcDG_split ?_ ?_) <;> intro hb <;> (try rw [hb]) <;> (try simp only [bq, bz, dtrue, dfalse] at hb) <;> (try simp only [within] at hb) <;> try (simp only [go_sem, hlt3', hg0, hjb, hbo, hb3, hg4, hul, hoff2, put0' hoff, encN, List.length_map, Nat.mul_one])) | refine And.intro (by first | exact trivial | omega | (simp only [I64]; omega)) ?_ | (with_reducible rw [vc_draw_eq]; first | (refine CV.draw (id := 8) sG04e_f68_8 mixed rfl (by kernel_rfl) ?_; delta sG04e_f68_8) | (refine CV.draw (id := 11) sG04e_f68_11 mixed rfl (by kernel_rfl) ?_; delta sG04e_f68_11)) | (simp only [go_sem, hlt3', hg0, hjb, hbo, hb3, hg4, hul, hoff2, put0' hoff, encN, List.length_map, Nat.mul_one])))
        exact ⟨u.set (g * 3 + bn) 1, hlt3, .base (by (first | exact wk_same (by (simp only [go_sem, Int.natCast_add, cn, Int.cast_ofNat_Int, put0' hoff])) | (refine wk_drop ?_ ?_ ?_ ?_ ?_ <;> (simp only [go_sem, Int.natCast_add, cn, Int.cast_ofNat_Int, put0' hoff])))), hu.set (by omega) _, hz⟩
      · have hge3' : ¬ (q : Int) < e.length := by omega
        have : q = e.length := by omega
        subst this
        rw [List.drop_length, setPg] at hz
        subst hz
        (repeat' (first | ((with_reducible first | refine vcG_split ?_ ?_ | refine vcIf_split ?_ ?_ | refine vcQ_split ?_ ?_ | refine vcDG_split ?_ ?_) <;> intro hb <;> (try rw [hb]) <;> (try simp only [bq, bz, dtrue, dfalse] at hb) <;> (try simp only [within] at hb) <;> try (simp only [go_sem, hge3'])) | refine And.intro (by first | exact trivial | omega | (simp only [I64]; omega)) ?_ | (with_reducible rw [vc_draw_eq]; first | (refine CV.draw (id := 8) sG04e_f68_8 mixed rfl (by kernel_rfl) ?_; delta sG04e_f68_8) | (refine CV.draw (id := 11) sG04e_f68_11 mixed rfl (by kernel_rfl) ?_; delta sG04e_f68_11)) | (simp only [go_sem, hge3'])))
        exact ⟨setPg bn e o, hlt2, .base (by (first | exact wk_same (by (simp only [go_sem, Int.natCast_add, cn, Int.cast_ofNat_Int])) | (refine wk_drop ?_ ?_ ?_ ?_ ?_ <;> (simp only [go_sem, Int.natCast_add, cn, Int.cast_ofNat_Int])))), hu, hy⟩
    · have hge2' : ¬ (i : Int) < l.length := by omega
      have : i = l.length := by omega
      subst this
      rw [List.drop_length, ownL] at hy
      subst hy
      have h63 := c63 98 (fun x y => x + y) s (ownL a bn l zer12) hs.1 ho.1 fun x y h1 h2 => c98 x y (by have := hs.2 x h1; have := ho.2 y h2; unfold I64; omega)
      have hz := zipS_len (φ := fun x y => x + y) hs.1 ho.1
      (repeat' (first | ((with_reducible first | refine vcG_split ?_ ?_ | refine vcIf_split ?_ ?_ | refine vcQ_split ?_ ?_ | refine vcDG_split ?_ ?_) <;> intro hb <;> (try rw [hb]) <;> (try simp only [bq, bz, dtrue, dfalse] at hb) <;> (try simp only [within] at hb) <;> try (simp only [go_sem, hge2', allOne_mapI, tk12 hs.1, tk12 ho.1, tk12 hz, dr12 hs.1, dr12 ho.1, dr12 hz, hs.1, ho.1, hz, List.length_map, List.append_nil])) | refine And.intro (by first | exact trivial | omega | (simp only [I64]; omega)) ?_ | (with_reducible rw [vc_draw_eq]; first | (refine CV.draw (id := 8) sG04e_f68_8 mixed rfl (by kernel_rfl) ?_; delta sG04e_f68_8) | (refine CV.draw (id := 11) sG04e_f68_11 mixed rfl (by kernel_rfl) ?_; delta sG04e_f68_11)) | (simp only [go_sem, hge2', allOne_mapI, tk12 hs.1, tk12 ho.1, tk12 hz, dr12 hs.1, dr12 ho.1, dr12 hz, hs.1, ho.1, hz, List.length_map, List.append_nil])))
      refine vcP_pure h63 (pureL_mapI _) (by (simp only [go_sem, pureL_mapI, AV.pureL, AV.pure, Bool.and_self])) (by (simp only [go_sem, frzL_mapI])) ?_
      (repeat' (first | ((with_reducible first | refine vcG_split ?_ ?_ | refine vcIf_split ?_ ?_ | refine vcQ_split ?_ ?_ | refine vcDG_split ?_ ?_) <;> intro hb <;> (try rw [hb]) <;> (try simp only [bq, bz, dtrue, dfalse] at hb) <;> (try simp only [within] at hb) <;> try (simp only [go_sem, hge2', allOne_mapI, tk12 hs.1, tk12 ho.1, tk12 hz, dr12 hs.1, dr12 ho.1, dr12 hz, hs.1, ho.1, hz, List.length_map, List.append_nil, frzL_mapI])) | refine And.intro (by first | exact trivial | omega | (simp only [I64]; omega)) ?_ | (with_reducible rw [vc_draw_eq]; first | (refine CV.draw (id := 8) sG04e_f68_8 mixed rfl (by kernel_rfl) ?_; delta sG04e_f68_8) | (refine CV.draw (id := 11) sG04e_f68_11 mixed rfl (by kernel_rfl) ?_; delta sG04e_f68_11)) | (simp only [go_sem, hge2', allOne_mapI, tk12 hs.1, tk12 ho.1, tk12 hz, dr12 hs.1, dr12 ho.1, dr12 hz, hs.1, ho.1, hz, List.length_map, List.append_nil, frzL_mapI])))
      exact ⟨zipS (fun x y => x + y) s (ownL a bn l zer12), hlt, .base (by (first | exact wk_same (by (simp only [go_sem, Int.natCast_add, cn, Int.cast_ofNat_Int])) | (refine wk_drop ?_ ?_ ?_ ?_ ?_ <;> (simp only [go_sem, Int.natCast_add, cn, Int.cast_ofNat_Int])))), by have := hs.add ho; simpa using this, hx⟩
  · have hge' : ¬ (j : Int) < p.length := by omega
    have : j = p.length := by omega
    subst this
    rw [List.drop_length, needF] at hx
    subst hx
    (repeat' (first | ((with_reducible first | refine vcG_split ?_ ?_ | refine vcIf_split ?_ ?_ | refine vcQ_split ?_ ?_ | refine vcDG_split ?_ ?_) <;> intro hb <;> (try rw [hb]) <;> (try simp only [bq, bz, dtrue, dfalse] at hb) <;> (try simp only [within] at hb) <;> try (simp only [go_sem, hge', allOne_mapI, tk12 hs.1, dr12 hs.1, hs.1, List.length_map, List.append_nil, frzL_mapI])) | refine And.intro (by first | exact trivial | omega | (simp only [I64]; omega)) ?_ | (with_reducible rw [vc_draw_eq]; first | (refine CV.draw (id := 8) sG04e_f68_8 mixed rfl (by kernel_rfl) ?_; delta sG04e_f68_8) | (refine CV.draw (id := 11) sG04e_f68_11 mixed rfl (by kernel_rfl) ?_; delta sG04e_f68_11)) | (simp only [go_sem, hge', allOne_mapI, tk12 hs.1, dr12 hs.1, hs.1, List.length_map, List.append_nil, frzL_mapI])))
end Go.Proofs.YtoadkchhimojlaaGreat

