/- Contracts of functions of the given program, without a condition beyond those that each theorem states; they lead to the given statement. -/
import Derived.Test.YtoadkchhimojlaaK05b
import Derived.Test.YtoadkchhimojlaaFlC
set_option linter.unusedSimpArgs false
set_option linter.unusedVariables false
set_option maxRecDepth 100000
namespace Go.Proofs.Ytoadkchhimojlaa.W5
open Go Go.Fl
open Classical
def jb (s : List Job) (x : Int) : Job := (s[x.toNat]?).getD ⟨0, 0, 0, 0, 0, 0⟩
def stp (s : List Job) (dr : Int → Int) (m : Int × Int) (x : Int) : Int × Int := (m.1 + (jb s x).beat, max m.2 (m.1 + (jb s x).beat + dr x) + (jb s x).pour)
def fin (s : List Job) (dr : Int → Int) (l : List Int) : Int × Int := l.foldl (stp s dr) (0, 0)
theorem fin_nil {s : List Job} {dr : Int → Int} : fin s dr [] = (0, 0) := rfl
theorem fin_snoc {s : List Job} {dr : Int → Int} {l : List Int} {x : Int} : fin s dr (l ++ [x]) = stp s dr (fin s dr l) x := by simp [fin]
def loD (s : List Job) (x : Int) : Int := (jb s x).low
def hiD (s : List Job) (x : Int) : Int := (jb s x).high
theorem take_sn {α : Type} {l : List α} {j : Nat} {x : α} (h : l[j]? = some x) : l.take (j + 1) = l.take j ++ [x] := by rw [List.take_add_one, h]; rfl
def onJ (s : List Job) (l : List Int) : Prop := ∀ x, x ∈ l → within x 0 (s.length - 1)
theorem isOrd.on {s : List Job} {l : List Int} (h : isOrd s.length l) : onJ s l := fun x hx => by
  obtain ⟨i, hi⟩ := List.mem_iff_getElem?.1 hx
  exact (h i x hi).1
theorem jb_at {s : List Job} {x : Int} (h : within x 0 (s.length - 1)) : s[x.toNat]? = some (jb s x) := by
  unfold within at h
  unfold jb
  rw [List.getElem?_eq_getElem (by omega)]
  rfl
theorem valid.jb {s : List Job} (hv : valid s) {x : Int} (h : within x 0 (s.length - 1)) : okJob (jb s x) := hv.2 _ (List.mem_of_getElem? (jb_at h))
theorem fold_bounds {s : List Job} (hv : valid s) (dr : Int → Int) (hdr : ∀ x, within x 0 (s.length - 1) → 0 ≤ dr x ∧ dr x ≤ 9) : ∀ (l : List Int) (k : Int) (m : Int × Int), 0 ≤ m.1 ∧ m.1 ≤ 9 * k ∧ 0 ≤ m.2 ∧ m.2 ≤ 27 * k → onJ s l →
    0 ≤ (l.foldl (stp s dr) m).1 ∧ (l.foldl (stp s dr) m).1 ≤ 9 * (k + l.length) ∧ 0 ≤ (l.foldl (stp s dr) m).2 ∧ (l.foldl (stp s dr) m).2 ≤ 27 * (k + l.length)
  | [], k, m, hm, _ => by simpa using hm
  | x :: l, k, m, hm, h => by
    have hx := h x (by simp)
    have hj := hv.jb hx
    have hd := hdr x hx
    unfold okJob within at hj
    have ih := fold_bounds hv dr hdr l (k + 1) (stp s dr m x) (by simp only [stp]; omega) fun y hy => h y (by simp [hy])
    simp only [List.foldl_cons, List.length_cons]
    omega
theorem fin_bounds {s : List Job} (hv : valid s) (dr : Int → Int) (hdr : ∀ x, within x 0 (s.length - 1) → 0 ≤ dr x ∧ dr x ≤ 9) (l : List Int) (h : onJ s l) : 0 ≤ (fin s dr l).1 ∧ (fin s dr l).1 ≤ 9 * l.length ∧ 0 ≤ (fin s dr l).2 ∧ (fin s dr l).2 ≤ 27 * l.length := by
  have := fold_bounds hv dr hdr l 0 (0, 0) (by simp) h
  simpa [fin] using this
theorem loD_ok {s : List Job} (hv : valid s) (x : Int) (h : within x 0 (s.length - 1)) : 0 ≤ loD s x ∧ loD s x ≤ 9 := by
  have hj := hv.jb h
  unfold okJob within at hj
  unfold loD; omega
theorem hiD_ok {s : List Job} (hv : valid s) (x : Int) (h : within x 0 (s.length - 1)) : 0 ≤ hiD s x ∧ hiD s x ≤ 9 := by
  have hj := hv.jb h
  unfold okJob within at hj
  unfold hiD; omega
abbrev rdV (s : List Job) (l : List Int) : AV := .agg [.int .i64 (fin s (loD s) l).2, .int .i64 (fin s (hiD s) l).2]
def enR (s : List Job) (l : List Int) : List AV := [.int .i64 (fin s (loD s) l).1, .int .i64 (fin s (loD s) l).2, .int .i64 (fin s (hiD s) l).1, .int .i64 (fin s (hiD s) l).2]
theorem c114 (b p d : Int) (j : Job) (hb : 0 ≤ b ∧ b ≤ 1000000000) (hp : 0 ≤ p ∧ p ≤ 1000000000) (hd : 0 ≤ d ∧ d ≤ 9) (hj : okJob j) : PC Try.prog 114 [.agg [.int .i64 b, .int .i64 p], .agg (encJ j), .int .i64 d] (.agg [.int .i64 (b + j.beat), .int .i64 (max p (b + j.beat + d) + j.pour)]) := by
  unfold okJob within at hj
  refine PC.body Try.func114 (by kernel_rfl) rfl (by simp [Try.f114]) rfl ?_
  simp only [Try.f114]
  intro hlen
  simp only [go_sem, List.length_map, and_true, true_and] at hlen
  refine CV.run ?_
  (repeat' (first | ((first | with_reducible refine vcG_split ?_ ?_ | with_reducible refine vcIf_split ?_ ?_ | with_reducible refine vcQ_split ?_ ?_ | with_reducible refine vcDG_split ?_ ?_) <;> intro hb <;> (try rw [hb]) <;> (try simp only [Bool.and_eq_true, Bool.or_eq_true, dtrue, dfalse, Bool.not_eq_true', Bool.not_eq_false', Bool.and_eq_false_iff, Bool.or_eq_false_iff, Bool.not_true, Bool.not_false] at hb) <;> (try simp only [within] at hb) <;> try (simp only [go_sem, encJ])) | refine And.intro (by (first | exact trivial | (simp only [I64]; omega) | omega)) ?_ | (simp only [go_sem, encJ])))
  all_goals omega
theorem c106 (s : List Job) (l : List Int) (x : Int) (hv : valid s) (hl : onJ s (l ++ [x])) (hll : l.length ≤ 1000000) : PC Try.prog 106 [.agg (enR s l), .agg (encJ (jb s x))] (.agg (enR s (l ++ [x]))) := by
  have hx := hl x (by simp)
  have hj := hv.jb hx
  have b1 := fin_bounds hv (loD s) (loD_ok hv) l fun y hy => hl y (by simp [hy])
  have b2 := fin_bounds hv (hiD s) (hiD_ok hv) l fun y hy => hl y (by simp [hy])
  have h1 := c114 (fin s (loD s) l).1 (fin s (loD s) l).2 (loD s x) (jb s x) (by omega) (by omega) (loD_ok hv x hx) hj
  have h2 := c114 (fin s (hiD s) l).1 (fin s (hiD s) l).2 (hiD s x) (jb s x) (by omega) (by omega) (hiD_ok hv x hx) hj
  simp only [encJ, loD, hiD] at h1 h2
  simp only [enR, fin_snoc, stp]
  refine PC.body Try.func106 (by kernel_rfl) rfl (by simp [Try.f106]) rfl ?_
  simp only [Try.f106]
  intro hlen
  simp only [go_sem, List.length_map, and_true, true_and] at hlen
  refine CV.run ?_
  (repeat' (first | ((first | with_reducible refine vcG_split ?_ ?_ | with_reducible refine vcIf_split ?_ ?_ | with_reducible refine vcQ_split ?_ ?_ | with_reducible refine vcDG_split ?_ ?_) <;> intro hb <;> (try rw [hb]) <;> (try simp only [Bool.and_eq_true, Bool.or_eq_true, dtrue, dfalse, Bool.not_eq_true', Bool.not_eq_false', Bool.and_eq_false_iff, Bool.or_eq_false_iff, Bool.not_true, Bool.not_false] at hb) <;> (try simp only [within] at hb) <;> try (simp only [go_sem, encJ, loD, hiD])) | refine And.intro (by (first | exact trivial | (simp only [I64]; omega) | omega)) ?_ | (with_reducible rw [vc_draw_eq]; first | refine CV.draw (id := 1) [(0, 0), (0, 0), (0, 0), (0, 0), (0, 0), (0, 0), (0, 0), (0, 0), (0, 0), (0, 0), (0, 0), (0, 0), (0, 0), (0, 0), (0, 0), (0, 0)] mixed rfl (by kernel_rfl) ?_) | (first | (refine vcP_pure (h1) rfl ?_ ?_ ?_; (focus (first | rfl | ((simp only [go_sem, encJ, loD, hiD, AV.pureL, AV.pure, pureL_mapI, Bool.and_self]) <;> fail))); (focus (first | ((simp only [go_sem, encJ, loD, hiD]) <;> fail) | rfl))) | (refine dCallP_pure (h1) rfl ?_ ?_ ?_; (focus (first | rfl | ((simp only [go_sem, encJ, loD, hiD, AV.pureL, AV.pure, pureL_mapI, Bool.and_self]) <;> fail))); (focus (first | ((simp only [go_sem, encJ, loD, hiD]) <;> fail) | rfl))) | (refine dCallC_pure (h1) rfl ?_ ?_ ?_; (focus (first | rfl | ((simp only [go_sem, encJ, loD, hiD, AV.pureL, AV.pure, pureL_mapI, Bool.and_self]) <;> fail))); (focus (first | ((simp only [go_sem, encJ, loD, hiD]) <;> fail) | rfl))) | refine dCallC_safe (h1) rfl rfl (by (simp only [go_sem, encJ, loD, hiD])) ?_ | refine vcP_safe (h1) rfl rfl (by (simp only [go_sem, encJ, loD, hiD])) ?_ | refine dCallP_safe (h1) rfl rfl ?_ | (refine vcP_pure (h2) rfl ?_ ?_ ?_; (focus (first | rfl | ((simp only [go_sem, encJ, loD, hiD, AV.pureL, AV.pure, pureL_mapI, Bool.and_self]) <;> fail))); (focus (first | ((simp only [go_sem, encJ, loD, hiD]) <;> fail) | rfl))) | (refine dCallP_pure (h2) rfl ?_ ?_ ?_; (focus (first | rfl | ((simp only [go_sem, encJ, loD, hiD, AV.pureL, AV.pure, pureL_mapI, Bool.and_self]) <;> fail))); (focus (first | ((simp only [go_sem, encJ, loD, hiD]) <;> fail) | rfl))) | (refine dCallC_pure (h2) rfl ?_ ?_ ?_; (focus (first | rfl | ((simp only [go_sem, encJ, loD, hiD, AV.pureL, AV.pure, pureL_mapI, Bool.and_self]) <;> fail))); (focus (first | ((simp only [go_sem, encJ, loD, hiD]) <;> fail) | rfl))) | refine dCallC_safe (h2) rfl rfl (by (simp only [go_sem, encJ, loD, hiD])) ?_ | refine vcP_safe (h2) rfl rfl (by (simp only [go_sem, encJ, loD, hiD])) ?_ | refine dCallP_safe (h2) rfl rfl ?_) | (simp only [go_sem, encJ, loD, hiD])))
theorem c107 (s : List Job) (l : List Int) : PC Try.prog 107 [.agg (enR s l)] (rdV s l) := by
  simp only [enR]
  refine PC.body Try.func107 (by kernel_rfl) rfl (by simp [Try.f107]) rfl ?_
  simp only [Try.f107]
  intro hlen
  simp only [go_sem, List.length_map, and_true, true_and] at hlen
  refine CV.run ?_
  (repeat' (first | ((first | with_reducible refine vcG_split ?_ ?_ | with_reducible refine vcIf_split ?_ ?_ | with_reducible refine vcQ_split ?_ ?_ | with_reducible refine vcDG_split ?_ ?_) <;> intro hb <;> (try rw [hb]) <;> (try simp only [Bool.and_eq_true, Bool.or_eq_true, dtrue, dfalse, Bool.not_eq_true', Bool.not_eq_false', Bool.and_eq_false_iff, Bool.or_eq_false_iff, Bool.not_true, Bool.not_false] at hb) <;> (try simp only [within] at hb) <;> try (simp only [go_sem])) | refine And.intro (by (first | exact trivial | (simp only [I64]; omega) | omega)) ?_ | (simp only [go_sem])))
theorem c78 (s : List Job) (l : List Int) : PC Try.prog 78 [hS s, lN l] (.fn 105 [.pp [lN l], .pp (cS s)]) := by
  refine PC.body Try.func78 (by kernel_rfl) rfl (by simp [Try.f78]) rfl ?_
  simp only [Try.f78]
  intro hlen
  simp only [go_sem, List.length_map, and_true, true_and] at hlen
  refine CV.run ?_
  (repeat' (first | ((first | with_reducible refine vcG_split ?_ ?_ | with_reducible refine vcIf_split ?_ ?_ | with_reducible refine vcQ_split ?_ ?_ | with_reducible refine vcDG_split ?_ ?_) <;> intro hb <;> (try rw [hb]) <;> (try simp only [Bool.and_eq_true, Bool.or_eq_true, dtrue, dfalse, Bool.not_eq_true', Bool.not_eq_false', Bool.and_eq_false_iff, Bool.or_eq_false_iff, Bool.not_true, Bool.not_false] at hb) <;> (try simp only [within] at hb) <;> try (simp only [go_sem])) | refine And.intro (by (first | exact trivial | (simp only [I64]; omega) | omega)) ?_ | (simp only [go_sem])))
theorem enR_nil {s : List Job} : enR s [] = [.int .i64 0, .int .i64 0, .int .i64 0, .int .i64 0] := rfl
theorem getB {H : Heap} {x y : Blk} {K : Nat} (h : H.length = K) : (H ++ [x, y])[K + 1]? = some y := by
  rw [List.getElem?_append_right (by omega), show K + 1 - H.length = 1 from by omega]; rfl
theorem setB {H : Heap} {x y z : Blk} {K : Nat} (h : H.length = K) : (H ++ [x, y]).set (K + 1) z = H ++ [x, z] := by
  rw [List.set_append_right _ _ (by omega), show K + 1 - H.length = 1 from by omega]; rfl
set_option maxHeartbeats 2000000 in
theorem h105 (s : List Job) (hv : valid s) (o : List Int) (ho : onJ s o) (hol : o.length ≤ 1000000) (K : Nat) (HS : Nat → Heap) (hK : ∀ n, (HS n).length = K) (l nt0 : Nat) (ps : Array Tmp) (assign body : Code) (env0 : Env)
    (hy : ∀ (n : Nat) (x : Int) (own : Heap), o[n]? = some x → HCY Try.prog l [.int .i64 x, rdV s (o.take (n + 1))] (HS n ++ .loop l nt0 ps assign body env0 :: own) fun r H2 => r = .bool true ∧ H2 = HS (n + 1) ++ .loop l nt0 ps assign body env0 :: own) :
    HCH Try.prog 105 [.yld l, .pp [lN o], .pp (cS s)] (HS 0 ++ [.loop l nt0 ps assign body env0]) fun r H' => ∃ rest, H' = HS o.length ++ .loop l nt0 ps assign body env0 :: rest := by
  refine HCH.body Try.func105 (by kernel_rfl) rfl (by simp [Try.f105]) ?_
  simp only [Try.f105]
  refine CV.run ?_
  (repeat' (first | ((first | with_reducible refine vcG_split ?_ ?_ | with_reducible refine vcIf_split ?_ ?_ | with_reducible refine vcQ_split ?_ ?_ | with_reducible refine vcDG_split ?_ ?_) <;> intro hb <;> (try rw [hb]) <;> (try simp only [Bool.and_eq_true, Bool.or_eq_true, dtrue, dfalse, Bool.not_eq_true', Bool.not_eq_false', Bool.and_eq_false_iff, Bool.or_eq_false_iff, Bool.not_true, Bool.not_false] at hb) <;> (try simp only [within] at hb) <;> try (simp only [go_sem, List.append_assoc, List.length_append, hK])) | refine And.intro (by (first | exact trivial | (simp only [I64]; omega) | omega)) ?_ | (with_reducible rw [vc_draw_eq]; first | refine CV.draw (id := 4) [(0, 0), (0, 0), (0, 0), (0, 0), (0, 0), (0, 0), (0, 0), (0, 0), (0, 0)] mixed rfl (by kernel_rfl) ?_) | (simp only [go_sem, List.append_assoc, List.length_append, hK])))
  refine vc_for (fun n => ⟨[(9, .int .i64 n), (8, .int .i64 o.length), (7, lN o), (0, .yld l), (2, .pp (cS s)), (4, .lp (K + 1) 0)], HS n ++ [.loop l nt0 ps assign body env0, .box 160 (enR s (o.take n)) false]⟩) o.length (fun _ => True) (by (first | exact wk_same (by (simp only [go_sem, Int.natCast_add, Int.natCast_one, Int.natCast_zero, Int.cast_ofNat_Int, enR_nil, List.take_zero])) | exact wk_drop (by (simp only [go_sem, Int.natCast_add, Int.natCast_one, Int.natCast_zero, Int.cast_ofNat_Int, enR_nil, List.take_zero])) (by (simp only [go_sem, Int.natCast_add, Int.natCast_one, Int.natCast_zero, Int.cast_ofNat_Int, enR_nil, List.take_zero])) (by (simp only [go_sem, Int.natCast_add, Int.natCast_one, Int.natCast_zero, Int.cast_ofNat_Int, enR_nil, List.take_zero])) (by (simp only [go_sem, Int.natCast_add, Int.natCast_one, Int.natCast_zero, Int.cast_ofNat_Int, enR_nil, List.take_zero])) (by (simp only [go_sem, Int.natCast_add, Int.natCast_one, Int.natCast_zero, Int.cast_ofNat_Int, enR_nil, List.take_zero])))) trivial ?_
  intro n hn _
  rcases Nat.lt_or_ge n o.length with hlt | hge
  · obtain ⟨x, hx⟩ := get_of hlt
    have hlt' : (n : Int) < o.length := by omega
    have hw := ho x (List.mem_of_getElem? hx)
    have hjb := jb_at hw
    have hw' := hw
    unfold within at hw'
    have hx0 : x < s.length := by omega
    have e := take_sn hx
    have h103 := c106 s (o.take n) x hv (by rw [← e]; exact fun y hy => ho y (List.mem_of_mem_take hy)) (by rw [List.length_take]; omega)
    have h104 := c107 s (o.take (n + 1))
    rw [← e] at h103
    simp only [enR, encJ] at h103 h104
    (repeat' (first | ((first | with_reducible refine vcG_split ?_ ?_ | with_reducible refine vcIf_split ?_ ?_ | with_reducible refine vcQ_split ?_ ?_ | with_reducible refine vcDG_split ?_ ?_) <;> intro hb <;> (try rw [hb]) <;> (try simp only [Bool.and_eq_true, Bool.or_eq_true, dtrue, dfalse, Bool.not_eq_true', Bool.not_eq_false', Bool.and_eq_false_iff, Bool.or_eq_false_iff, Bool.not_true, Bool.not_false] at hb) <;> (try simp only [within] at hb) <;> try (simp only [go_sem, hlt', hx, encN, encJ, enR, List.append_assoc, List.length_append, hK, getB (hK n), setB (hK n), hjb, hx0])) | refine And.intro (by (first | exact trivial | (simp only [I64]; omega) | omega)) ?_ | (with_reducible rw [vc_draw_eq]; first | refine CV.draw (id := 4) [(0, 0), (0, 0), (0, 0), (0, 0), (0, 0), (0, 0), (0, 0), (0, 0), (0, 0)] mixed rfl (by kernel_rfl) ?_) | (first | (refine vcP_pure (h103) rfl ?_ ?_ ?_; (focus (first | rfl | ((simp only [go_sem, hlt', hx, encN, encJ, enR, List.append_assoc, List.length_append, hK, getB (hK n), setB (hK n), hjb, hx0, AV.pureL, AV.pure, pureL_mapI, Bool.and_self]) <;> fail))); (focus (first | ((simp only [go_sem, hlt', hx, encN, encJ, enR, List.append_assoc, List.length_append, hK, getB (hK n), setB (hK n), hjb, hx0]) <;> fail) | rfl))) | (refine dCallP_pure (h103) rfl ?_ ?_ ?_; (focus (first | rfl | ((simp only [go_sem, hlt', hx, encN, encJ, enR, List.append_assoc, List.length_append, hK, getB (hK n), setB (hK n), hjb, hx0, AV.pureL, AV.pure, pureL_mapI, Bool.and_self]) <;> fail))); (focus (first | ((simp only [go_sem, hlt', hx, encN, encJ, enR, List.append_assoc, List.length_append, hK, getB (hK n), setB (hK n), hjb, hx0]) <;> fail) | rfl))) | (refine dCallC_pure (h103) rfl ?_ ?_ ?_; (focus (first | rfl | ((simp only [go_sem, hlt', hx, encN, encJ, enR, List.append_assoc, List.length_append, hK, getB (hK n), setB (hK n), hjb, hx0, AV.pureL, AV.pure, pureL_mapI, Bool.and_self]) <;> fail))); (focus (first | ((simp only [go_sem, hlt', hx, encN, encJ, enR, List.append_assoc, List.length_append, hK, getB (hK n), setB (hK n), hjb, hx0]) <;> fail) | rfl))) | refine dCallC_safe (h103) rfl rfl (by (simp only [go_sem, hlt', hx, encN, encJ, enR, List.append_assoc, List.length_append, hK, getB (hK n), setB (hK n), hjb, hx0])) ?_ | refine vcP_safe (h103) rfl rfl (by (simp only [go_sem, hlt', hx, encN, encJ, enR, List.append_assoc, List.length_append, hK, getB (hK n), setB (hK n), hjb, hx0])) ?_ | refine dCallP_safe (h103) rfl rfl ?_ | (refine vcP_pure (h104) rfl ?_ ?_ ?_; (focus (first | rfl | ((simp only [go_sem, hlt', hx, encN, encJ, enR, List.append_assoc, List.length_append, hK, getB (hK n), setB (hK n), hjb, hx0, AV.pureL, AV.pure, pureL_mapI, Bool.and_self]) <;> fail))); (focus (first | ((simp only [go_sem, hlt', hx, encN, encJ, enR, List.append_assoc, List.length_append, hK, getB (hK n), setB (hK n), hjb, hx0]) <;> fail) | rfl))) | (refine dCallP_pure (h104) rfl ?_ ?_ ?_; (focus (first | rfl | ((simp only [go_sem, hlt', hx, encN, encJ, enR, List.append_assoc, List.length_append, hK, getB (hK n), setB (hK n), hjb, hx0, AV.pureL, AV.pure, pureL_mapI, Bool.and_self]) <;> fail))); (focus (first | ((simp only [go_sem, hlt', hx, encN, encJ, enR, List.append_assoc, List.length_append, hK, getB (hK n), setB (hK n), hjb, hx0]) <;> fail) | rfl))) | (refine dCallC_pure (h104) rfl ?_ ?_ ?_; (focus (first | rfl | ((simp only [go_sem, hlt', hx, encN, encJ, enR, List.append_assoc, List.length_append, hK, getB (hK n), setB (hK n), hjb, hx0, AV.pureL, AV.pure, pureL_mapI, Bool.and_self]) <;> fail))); (focus (first | ((simp only [go_sem, hlt', hx, encN, encJ, enR, List.append_assoc, List.length_append, hK, getB (hK n), setB (hK n), hjb, hx0]) <;> fail) | rfl))) | refine dCallC_safe (h104) rfl rfl (by (simp only [go_sem, hlt', hx, encN, encJ, enR, List.append_assoc, List.length_append, hK, getB (hK n), setB (hK n), hjb, hx0])) ?_ | refine vcP_safe (h104) rfl rfl (by (simp only [go_sem, hlt', hx, encN, encJ, enR, List.append_assoc, List.length_append, hK, getB (hK n), setB (hK n), hjb, hx0])) ?_ | refine dCallP_safe (h104) rfl rfl ?_) | (simp only [go_sem, hlt', hx, encN, encJ, enR, List.append_assoc, List.length_append, hK, getB (hK n), setB (hK n), hjb, hx0])))
    refine vcY_exact (hy n x _ hx) ?_
    (repeat' (first | ((first | with_reducible refine vcG_split ?_ ?_ | with_reducible refine vcIf_split ?_ ?_ | with_reducible refine vcQ_split ?_ ?_ | with_reducible refine vcDG_split ?_ ?_) <;> intro hb <;> (try rw [hb]) <;> (try simp only [Bool.and_eq_true, Bool.or_eq_true, dtrue, dfalse, Bool.not_eq_true', Bool.not_eq_false', Bool.and_eq_false_iff, Bool.or_eq_false_iff, Bool.not_true, Bool.not_false] at hb) <;> (try simp only [within] at hb) <;> try (simp only [go_sem])) | refine And.intro (by (first | exact trivial | (simp only [I64]; omega) | omega)) ?_ | (with_reducible rw [vc_draw_eq]; first | refine CV.draw (id := 4) [(0, 0), (0, 0), (0, 0), (0, 0), (0, 0), (0, 0), (0, 0), (0, 0), (0, 0)] mixed rfl (by kernel_rfl) ?_) | (simp only [go_sem])))
    exact (by (first | exact wk_same (by (simp only [go_sem, Int.natCast_add, Int.natCast_one, Int.natCast_zero, Int.cast_ofNat_Int, enR])) | exact wk_drop (by (simp only [go_sem, Int.natCast_add, Int.natCast_one, Int.natCast_zero, Int.cast_ofNat_Int, enR])) (by (simp only [go_sem, Int.natCast_add, Int.natCast_one, Int.natCast_zero, Int.cast_ofNat_Int, enR])) (by (simp only [go_sem, Int.natCast_add, Int.natCast_one, Int.natCast_zero, Int.cast_ofNat_Int, enR])) (by (simp only [go_sem, Int.natCast_add, Int.natCast_one, Int.natCast_zero, Int.cast_ofNat_Int, enR])) (by (simp only [go_sem, Int.natCast_add, Int.natCast_one, Int.natCast_zero, Int.cast_ofNat_Int, enR]))))
  · have hge' : ¬ (n : Int) < o.length := by omega
    have : n = o.length := by omega
    subst this
    (repeat' (first | ((first | with_reducible refine vcG_split ?_ ?_ | with_reducible refine vcIf_split ?_ ?_ | with_reducible refine vcQ_split ?_ ?_ | with_reducible refine vcDG_split ?_ ?_) <;> intro hb <;> (try rw [hb]) <;> (try simp only [Bool.and_eq_true, Bool.or_eq_true, dtrue, dfalse, Bool.not_eq_true', Bool.not_eq_false', Bool.and_eq_false_iff, Bool.or_eq_false_iff, Bool.not_true, Bool.not_false] at hb) <;> (try simp only [within] at hb) <;> try (simp only [go_sem, hge'])) | refine And.intro (by (first | exact trivial | (simp only [I64]; omega) | omega)) ?_ | (with_reducible rw [vc_draw_eq]; first | refine CV.draw (id := 4) [(0, 0), (0, 0), (0, 0), (0, 0), (0, 0), (0, 0), (0, 0), (0, 0), (0, 0)] mixed rfl (by kernel_rfl) ?_) | (simp only [go_sem, hge'])))
    exact ⟨_, rfl⟩
end Go.Proofs.Ytoadkchhimojlaa.W5

