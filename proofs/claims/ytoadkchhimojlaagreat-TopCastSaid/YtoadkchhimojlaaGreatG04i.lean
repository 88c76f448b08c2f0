/- Contracts of functions of the given program, without a condition beyond those that each theorem states; they lead to the given statement. -/
import Derived.Test.YtoadkchhimojlaaGreatG04h
set_option linter.unusedSimpArgs false
set_option linter.unusedVariables false
set_option maxRecDepth 100000
namespace Go.Proofs.YtoadkchhimojlaaGreat
open Go Go.Fl
open Classical
structure seenN (F : List (List Int × Int)) (seen : List Nat) (j : Nat) : Prop where
  len : seen.length = j
  nd : seen.Nodup
  lt : ∀ x, x ∈ seen → x < F.length
theorem seenN.nil (F : List (List Int × Int)) : seenN F [] 0 := ⟨rfl, List.nodup_nil, fun x h => by cases h⟩
theorem seenN.add {F : List (List Int × Int)} {seen : List Nat} {j i : Nat} {e : List Int × Int} (h : seenN F seen j) (he : F[i]? = some e) (hi : i ∉ seen) : seenN F (seen ++ [i]) (j + 1) := by
  refine ⟨by simp [h.len], ?_, fun x hx => ?_⟩
  · rw [List.nodup_append]
    exact ⟨h.nd, by simp, fun a ha b hb => by rw [List.mem_singleton.1 hb]; exact fun e => hi (e ▸ ha)⟩
  · rcases List.mem_append.1 hx with hx | hx
    · exact h.lt x hx
    · rw [List.mem_singleton.1 hx]; exact (List.getElem?_eq_some_iff.1 he).1
theorem seenN.le {F : List (List Int × Int)} {seen : List Nat} {j : Nat} (h : seenN F seen j) : j ≤ F.length := by
  rw [← h.len]; exact nodup_lt h.nd h.lt
structure keptN (F : List (List Int × Int)) (seen : List Nat) (out : List (List Int)) : Prop where
  len : out.length ≤ seen.length
  mem : ∀ s, s ∈ out ↔ ∃ i e, i ∈ seen ∧ F[i]? = some e ∧ e.1 = s ∧ isMin (keysF F) s
theorem keptN.nil (F : List (List Int × Int)) : keptN F [] [] := ⟨Nat.le_refl _, fun s => by simp⟩
theorem keptN.yes {F : List (List Int × Int)} {seen : List Nat} {out : List (List Int)} {i : Nat} {e : List Int × Int} (h : keptN F seen out) (he : F[i]? = some e) (hm : isMin (keysF F) e.1) : keptN F (seen ++ [i]) (out ++ [e.1]) := by
  refine ⟨by have := h.len; simp; omega, fun s => ?_⟩
  rw [List.mem_append, List.mem_singleton, h.mem]
  constructor
  · rintro (⟨j, e', h1, h2⟩ | rfl)
    · exact ⟨j, e', by simp [h1], h2⟩
    · exact ⟨i, e, by simp, he, rfl, hm⟩
  · rintro ⟨j, e', h1, h2, h3, h4⟩
    rcases List.mem_append.1 h1 with h1 | h1
    · exact .inl ⟨j, e', h1, h2, h3, h4⟩
    · rw [List.mem_singleton.1 h1, he] at h2
      cases h2; exact .inr h3.symm
theorem keptN.no {F : List (List Int × Int)} {seen : List Nat} {out : List (List Int)} {i : Nat} {e : List Int × Int} (h : keptN F seen out) (he : F[i]? = some e) (hm : ¬ isMin (keysF F) e.1) : keptN F (seen ++ [i]) out := by
  refine ⟨by have := h.len; simp; omega, fun s => ?_⟩
  rw [h.mem]
  constructor
  · rintro ⟨j, e', h1, h2⟩
    exact ⟨j, e', by simp [h1], h2⟩
  · rintro ⟨j, e', h1, h2, h3, h4⟩
    rcases List.mem_append.1 h1 with h1 | h1
    · exact ⟨j, e', h1, h2, h3, h4⟩
    · rw [List.mem_singleton.1 h1, he] at h2
      cases h2; subst h3; exact absurd h4 hm
theorem keptN.good {F : List (List Int × Int)} {seen : List Nat} {out : List (List Int)} (h : keptN F seen out) (hall : ∀ j, j < F.length → j ∈ seen) : goodN (keysF F) out := by
  intro s
  rw [h.mem]
  unfold keysF
  constructor
  · rintro ⟨i, e, _, h2, h3, h4⟩
    exact ⟨List.mem_map.2 ⟨e, List.mem_of_getElem? h2, h3⟩, h4⟩
  · rintro ⟨h1, h2⟩
    obtain ⟨e, h3, h4⟩ := List.mem_map.1 h1
    obtain ⟨i, hi⟩ := List.mem_iff_getElem?.1 h3
    exact ⟨i, e, hall i (List.getElem?_eq_some_iff.1 hi).1, hi, h4, h2⟩
theorem vc_raw_ne {P : Program} {nt m : Nat} {R : Exit → St → Prop} {k : List Iv} {st : St} {c : Code} (b b' : Nat) {g g' : Nat} {o o' : Rk} (h1 : st.H[b]? = some (.raw g o)) (h2 : st.H[b']? = some (.raw g' o')) (hne : b ≠ b')
    (h : g ≠ g' → vc P nt m R (.code (.loop c) :: k) st) : vc P nt m R (.code (.loop c) :: k) st := by
  rw [vc_loop_eq] at h ⊢
  refine CV.mk fun k' hr => ?_
  intro F E a w hF hE hg
  obtain ⟨κ, e1, e2, e3, e4⟩ := id hg
  have hgg : g ≠ g' := fun e => by
    rw [← e2] at h1 h2
    obtain ⟨p1, p2, _⟩ := e3.blk _ _ h1
    obtain ⟨q1, q2, _⟩ := e3.blk _ _ h2
    exact hne (e3.inj b b' (List.getElem?_eq_some_iff.1 h1).1 (List.getElem?_eq_some_iff.1 h2).1 p1 q1 (by rw [p2, q2, e]))
  exact (h hgg).of k' hr F E a w hF hE hg
theorem addF_len (F : List (List Int × Int)) (k : List Int) : (addF F k).length ≤ F.length + 1 := by
  unfold addF stR upR
  rw [List.length_modify]
  split <;> simp
theorem foundN_len (a : Hall) (stop : Int) : (foundN a stop).length ≤ (plansG a.hs stop).length := by
  unfold foundN
  have : ∀ (L : List (List (List Int))) (F : List (List Int × Int)), (L.foldl (stN a) F).length ≤ F.length + L.length := by
    intro L
    induction L with
    | nil => intro F; simp
    | cons p L ih =>
      intro F
      have h1 := ih (stN a F p)
      have h2 : (stN a F p).length ≤ F.length + 1 := by
        unfold stN
        split
        · exact addF_len F _
        · omega
      rw [List.foldl_cons, List.length_cons]; omega
  have := this (plansG a.hs stop) []
  simpa using this
theorem belowB_raw {n g : Nat} {k : Rk} : belowB n (.raw g k) = True := rfl
attribute [go_sem] belowB_raw
theorem mapIe (l : List Int) : List.map (AV.int IntKind.i64) l = l.map I := rfl
theorem lastSeen (l : List Nat) (i : Nat) : (l ++ [i]).getLast? = some i := by simp
set_option maxHeartbeats 16000000 in
theorem c49 (a : Hall) (ha : okH a) (h3 : a.hs.bs.length ≤ 3) (stop : Int) : PC Tryz.prog 49 [hH a, .int .i64 stop] (.alt ((altN a stop).map lK)) := by
  obtain ⟨hk, b1, b2, b3, b4, b5⟩ := id ha
  obtain ⟨k1, k2, k3, k4, k5, k6, k7, k8⟩ := id hk
  have tn : ((a.hs.ms.length : Int)).toNat = a.hs.ms.length := Int.toNat_natCast _
  have hlenP := plansG_len (stop := stop) hk h3
  refine PC.bodyA Tryz.func49 (by kernel_rfl) rfl (by simp [Tryz.f49]) ?_
  simp only [Tryz.f49]
  intro hlen
  simp only [go_sem, List.length_map, and_true, true_and] at hlen
  refine CV.cut6 (fun mg : Nat => ⟨[(5, .lp 3 0), (4, .nilS)], [.box 64 (cH a) false, .box 3 [.int .i64 stop] false, .raw mg (.map (foundN a stop)), .box 118 [.mp mg] false]⟩) (fun _ => True) ?_ ?_
  · refine CV.run ?_
    (repeat' (first | ((with_reducible first | refine vcG_split ?_ ?_ | refine vcIf_split ?_ ?_ | refine vcQ_split ?_ ?_ | refine vcDG_split ?_ ?_) <;> intro hb <;> (try rw [hb]) <;> (try simp only [bq, bz, dtrue, dfalse] at hb) <;> (try simp only [within] at hb) <;> try (simp only [go_sem, tn])) | refine And.intro (by first | exact trivial | omega | (simp only [I64]; omega)) ?_ | (with_reducible refine vcM_some fun mg => ?_) | (with_reducible refine vcMR fun mg => ?_) | (with_reducible refine vcRg_some fun rg => ?_) | (simp only [go_sem, tn])))
    obtain ⟨j', g', h66⟩ := c66 a ha stop mg (a.hs.ms.length + a.hs.bs.length + 1) 0 (List.replicate a.hs.ms.length []) [] 0 (fun _ => []) (fun _ => 0) (okQ_nil _ _) (nodup_nil _) (Nat.zero_le _) (by have := cnt_le (usd (List.replicate a.hs.ms.length [])) a.hs.bs.length; omega) (fun e he => by cases he) (by unfold plansG at hlenP; omega)
    rw [bs_nil] at h66
    refine vcP_raw ?_
    rw [show ∀ A B C D E F G : Blk, [A, B, C, D, E, F, G] = [A, B, C, D] ++ E :: [F, G] from fun A B C D E F G => rfl]
    refine HCH.nilGs (el := 3) (sz := 1) (by omega) _ _ _ ?_
    have e : ∀ (A B C D F G : Blk), [A, B, C, D] ++ Blk.row 24 1 ((List.range a.hs.ms.length).map fun m => [.rg ([A, B, C, D].length + 1 + [F, G].length + m) 0 0]) false :: ([F, G] ++ (List.range a.hs.ms.length).map fun _ => .rg 3 1 [] 0) =
        A :: B :: C :: D :: .row 24 1 ((List.range a.hs.ms.length).map (rowE (List.replicate a.hs.ms.length []) fun _ => 0)) false :: F :: G :: (List.range a.hs.ms.length).map (rgE (List.replicate a.hs.ms.length []) (fun _ => []) fun _ => 0) := by
      intro A B C D F G
      have e1 : (fun m => [AV.rg ([A, B, C, D].length + 1 + [F, G].length + m) 0 0]) = rowE (List.replicate a.hs.ms.length []) fun _ => 0 := by
        funext m
        simp only [rowE, rep_getD, List.length_cons, List.length_nil]
        congr 2; omega
      have e2 : (fun _ => Blk.rg 3 1 [] 0) = rgE (List.replicate a.hs.ms.length []) (fun _ => []) fun _ => 0 := by
        funext m
        simp only [rgE, rep_getD, List.append_nil, List.map_nil]
      rw [e1, e2]; rfl
    rw [e]
    refine h66.mono ?_
    rintro r H' ⟨rfl, rfl⟩
    (repeat' (first | ((with_reducible first | refine vcG_split ?_ ?_ | refine vcIf_split ?_ ?_ | refine vcQ_split ?_ ?_ | refine vcDG_split ?_ ?_) <;> intro hb <;> (try rw [hb]) <;> (try simp only [bq, bz, dtrue, dfalse] at hb) <;> (try simp only [within] at hb) <;> try (simp only [go_sem])) | refine And.intro (by first | exact trivial | omega | (simp only [I64]; omega)) ?_ | (with_reducible refine vcM_some fun mg => ?_) | (with_reducible refine vcMR fun mg => ?_) | (with_reducible refine vcRg_some fun rg => ?_) | (simp only [go_sem])))
    refine ⟨mg, .base (wk_drop (by (simp only [go_sem])) ⟨rfl, rfl, rfl, rfl, trivial⟩ (Nat.zero_le _) (by (simp only [go_sem])) ?_)⟩
    exact ⟨rfl, rfl, trivial, rfl, trivial⟩
  · intro mg _
    refine CV.run ?_
    have hokF := foundN_ok ha stop
    have hlF : (foundN a stop).length ≤ 16384 := Nat.le_trans (foundN_len a stop) hlenP
    have hmem := fun out => mem_altN (a := a) (stop := stop) (out := out)
    generalize foundN a stop = F at *
    (repeat' (first | ((with_reducible first | refine vcG_split ?_ ?_ | refine vcIf_split ?_ ?_ | refine vcQ_split ?_ ?_ | refine vcDG_split ?_ ?_) <;> intro hb <;> (try rw [hb]) <;> (try simp only [bq, bz, dtrue, dfalse] at hb) <;> (try simp only [within] at hb) <;> try (simp only [go_sem, tn, findR, vc_range_map, rngD, T.kl118])) | refine And.intro (by first | exact trivial | omega | (simp only [I64]; omega)) ?_ | (with_reducible refine vcM_some fun mg => ?_) | (with_reducible refine vcMR fun mg => ?_) | (with_reducible refine vcRg_some fun rg => ?_) | (simp only [go_sem, tn, findR, vc_range_map, rngD, T.kl118])))
    rename Nat => r1
    refine vc_raw_ne 2 4 rfl rfl (by omega) fun hn1 => ?_
    have hn1' : ¬ r1 = mg := fun e => hn1 e.symm
    refine vc_fx (fun j (x : List Nat × List (List Int)) => ⟨[(23, .val (.pointer (some ⟨r1, 0, none⟩))), (8, .row 5 x.2.length), (5, .lp 3 0), (4, .nilS)], [.box 64 (cH a) false, .box 3 [.int .i64 stop] false, .raw mg (.map F), .box 118 [.mp mg] false, .raw r1 (.it mg F.length x.1 F.length), .row 69 12 (x.2.map encK) false]⟩) F.length (fun j x => seenN F x.1 j ∧ keptN F x.1 x.2) ([], []) (.nilE 8 69 12 (by (simp only [go_sem])) (by omega) (.base (by (first | exact wk_same (by (simp only [go_sem, Int.natCast_add, cn, Int.cast_ofNat_Int])) | (refine wk_drop ?_ ?_ ?_ ?_ ?_ <;> (simp only [go_sem, Int.natCast_add, cn, Int.cast_ofNat_Int])))))) ⟨.nil F, .nil F⟩ ?_
    rintro j ⟨seen, out⟩ hj ⟨hs, ho⟩
    simp only at hs ho
    have hol := ho.len
    have hsl := hs.len
    (repeat' (first | ((with_reducible first | refine vcG_split ?_ ?_ | refine vcIf_split ?_ ?_ | refine vcQ_split ?_ ?_ | refine vcDG_split ?_ ?_) <;> intro hb <;> (try rw [hb]) <;> (try simp only [bq, bz, dtrue, dfalse] at hb) <;> (try simp only [within] at hb) <;> try (simp only [go_sem, findR, vc_next, nxtD, hn1, hn1'])) | refine And.intro (by first | exact trivial | omega | (simp only [I64]; omega)) ?_ | (with_reducible refine vcM_some fun mg => ?_) | (with_reducible refine vcMR fun mg => ?_) | (with_reducible refine vcRg_some fun rg => ?_) | (simp only [go_sem, findR, vc_next, nxtD, hn1, hn1'])))
    refine vcNx_some ⟨rfl, rfl⟩ (fun hall => ?_) fun i e he hi => ?_
    · (repeat' (first | ((with_reducible first | refine vcG_split ?_ ?_ | refine vcIf_split ?_ ?_ | refine vcQ_split ?_ ?_ | refine vcDG_split ?_ ?_) <;> intro hb <;> (try rw [hb]) <;> (try simp only [bq, bz, dtrue, dfalse] at hb) <;> (try simp only [within] at hb) <;> try (simp only [go_sem])) | refine And.intro (by first | exact trivial | omega | (simp only [I64]; omega)) ?_ | (with_reducible refine vcM_some fun mg => ?_) | (with_reducible refine vcMR fun mg => ?_) | (with_reducible refine vcRg_some fun rg => ?_) | (simp only [go_sem])))
      refine ⟨lK out, List.mem_map.2 ⟨out, (hmem out).2 ⟨⟨by omega, fun s hs2 => (ho.good hall s |>.1 hs2).1⟩, ho.good hall⟩, rfl⟩, ?_⟩
      (simp only [go_sem, pureK])
    · simp only at he hi
      have hil := (List.getElem?_eq_some_iff.1 he).1
      have hok := (hokF e (List.mem_of_getElem? he)).1
      have hge : F.getD i ([], 0) = e := by simp [he]
      have hge2 : (F[i]?).getD ([], 0) = e := by simp [he]
      have hk12 := hok.1
      (repeat' (first | ((with_reducible first | refine vcG_split ?_ ?_ | refine vcIf_split ?_ ?_ | refine vcQ_split ?_ ?_ | refine vcDG_split ?_ ?_) <;> intro hb <;> (try rw [hb]) <;> (try simp only [bq, bz, dtrue, dfalse] at hb) <;> (try simp only [within] at hb) <;> try (simp only [go_sem, findR, vc_o_entry, vc_range_map, rngD, T.kl118, hn1, hn1', lastSeen, hil, hge, hge2, he, mapIe, allOne_mapI, tk12 hk12, dr12 hk12, hk12, List.length_map, List.append_nil])) | refine And.intro (by first | exact trivial | omega | (simp only [I64]; omega)) ?_ | (with_reducible refine vcM_some fun mg => ?_) | (with_reducible refine vcMR fun mg => ?_) | (with_reducible refine vcRg_some fun rg => ?_) | (simp only [go_sem, findR, vc_o_entry, vc_range_map, rngD, T.kl118, hn1, hn1', lastSeen, hil, hge, hge2, he, mapIe, allOne_mapI, tk12 hk12, dr12 hk12, hk12, List.length_map, List.append_nil])))
      rename Nat => r2
      refine vc_raw_ne 2 7 rfl rfl (by omega) fun hn2 => vc_raw_ne 4 7 rfl rfl (by omega) fun hn3 => ?_
      have hn2' : ¬ r2 = mg := fun e => hn2 e.symm
      have hn3' : ¬ r2 = r1 := fun e => hn3 e.symm
      refine vc_fx (fun q (x : List Nat × Bool) => ⟨[(29, .val (.pointer (some ⟨r2, 0, none⟩))), (10, .bool x.2), (9, .lp 6 0), (23, .val (.pointer (some ⟨r1, 0, none⟩))), (8, .row 5 out.length), (5, .lp 3 0), (4, .nilS)], [.box 64 (cH a) false, .box 3 [.int .i64 stop] false, .raw mg (.map F), .box 118 [.mp mg] false, .raw r1 (.it mg F.length (seen ++ [i]) F.length), .row 69 12 (out.map encK) false, .box 69 (e.1.map I) false, .raw r2 (.it mg F.length x.1 F.length)]⟩) F.length (fun q x => seenN F x.1 q ∧ (x.2 = true ↔ ∀ k, k ∈ x.1 → ∀ e', F[k]? = some e' → e.1 = e'.1 ∨ ¬ misS e.1 e'.1 = zer12)) ([], true) (.base (by (first | exact wk_same (by (simp only [go_sem, Int.natCast_add, cn, Int.cast_ofNat_Int])) | (refine wk_drop ?_ ?_ ?_ ?_ ?_ <;> (simp only [go_sem, Int.natCast_add, cn, Int.cast_ofNat_Int]))))) ⟨.nil F, by simp⟩ ?_
      rintro q ⟨see2, le⟩ hq ⟨hs2, hle⟩
      simp only at hs2 hle
      have hsl2 := hs2.len
      (repeat' (first | ((with_reducible first | refine vcG_split ?_ ?_ | refine vcIf_split ?_ ?_ | refine vcQ_split ?_ ?_ | refine vcDG_split ?_ ?_) <;> intro hb <;> (try rw [hb]) <;> (try simp only [bq, bz, dtrue, dfalse] at hb) <;> (try simp only [within] at hb) <;> try (simp only [go_sem, findR, vc_next, nxtD, hn1, hn1', hn2, hn2', hn3, hn3'])) | refine And.intro (by first | exact trivial | omega | (simp only [I64]; omega)) ?_ | (with_reducible refine vcM_some fun mg => ?_) | (with_reducible refine vcMR fun mg => ?_) | (with_reducible refine vcRg_some fun rg => ?_) | (simp only [go_sem, findR, vc_next, nxtD, hn1, hn1', hn2, hn2', hn3, hn3'])))
      refine vcNx_some ⟨rfl, rfl⟩ (fun hall => ?_) fun i2 e2 he2 hi2 => ?_
      · have hmin : le = true ↔ isMin (keysF F) e.1 := by
          rw [hle]
          constructor
          · intro h t ht
            obtain ⟨e', h1, h2⟩ := List.mem_map.1 ht
            obtain ⟨k, hk⟩ := List.mem_iff_getElem?.1 h1
            have := h k (hall k (List.getElem?_eq_some_iff.1 hk).1) e' hk
            rwa [h2] at this
          · intro h k _ e' hk
            exact h e'.1 (List.mem_map.2 ⟨e', List.mem_of_getElem? hk, rfl⟩)
        have hse := hs.add he hi
        cases le with
        | true =>
          have hko := ho.yes he (hmin.1 rfl)
          have hll : (out ++ [e.1]).map encK = out.map encK ++ [e.1.map I] := by simp [encK]
          (repeat' (first | ((with_reducible first | refine vcG_split ?_ ?_ | refine vcIf_split ?_ ?_ | refine vcQ_split ?_ ?_ | refine vcDG_split ?_ ?_) <;> intro hb <;> (try rw [hb]) <;> (try simp only [bq, bz, dtrue, dfalse] at hb) <;> (try simp only [within] at hb) <;> try (simp only [go_sem, allOne_mapI, tk12 hk12, dr12 hk12, hk12, List.length_map, List.append_nil])) | refine And.intro (by first | exact trivial | omega | (simp only [I64]; omega)) ?_ | (with_reducible refine vcM_some fun mg => ?_) | (with_reducible refine vcMR fun mg => ?_) | (with_reducible refine vcRg_some fun rg => ?_) | (simp only [go_sem, allOne_mapI, tk12 hk12, dr12 hk12, hk12, List.length_map, List.append_nil])))
          exact ⟨(seen ++ [i], out ++ [e.1]), by have := hse.le; omega, .base (by (first | exact wk_same (by (simp only [go_sem, Int.natCast_add, cn, Int.cast_ofNat_Int, hll, List.length_append])) | (refine wk_drop ?_ ?_ ?_ ?_ ?_ <;> (simp only [go_sem, Int.natCast_add, cn, Int.cast_ofNat_Int, hll, List.length_append])))), hse, hko⟩
        | false =>
          have hko := ho.no he (fun h => by have := hmin.2 h; cases this)
          (repeat' (first | ((with_reducible first | refine vcG_split ?_ ?_ | refine vcIf_split ?_ ?_ | refine vcQ_split ?_ ?_ | refine vcDG_split ?_ ?_) <;> intro hb <;> (try rw [hb]) <;> (try simp only [bq, bz, dtrue, dfalse] at hb) <;> (try simp only [within] at hb) <;> try (simp only [go_sem])) | refine And.intro (by first | exact trivial | omega | (simp only [I64]; omega)) ?_ | (with_reducible refine vcM_some fun mg => ?_) | (with_reducible refine vcMR fun mg => ?_) | (with_reducible refine vcRg_some fun rg => ?_) | (simp only [go_sem])))
          exact ⟨(seen ++ [i], out), by have := hse.le; omega, .base (by (first | exact wk_same (by (simp only [go_sem, Int.natCast_add, cn, Int.cast_ofNat_Int])) | (refine wk_drop ?_ ?_ ?_ ?_ ?_ <;> (simp only [go_sem, Int.natCast_add, cn, Int.cast_ofNat_Int])))), hse, hko⟩
      · simp only at he2 hi2
        have hil2 := (List.getElem?_eq_some_iff.1 he2).1
        have hok2 := (hokF e2 (List.mem_of_getElem? he2)).1
        have hg2 : F.getD i2 ([], 0) = e2 := by simp [he2]
        have hg3 : (F[i2]?).getD ([], 0) = e2 := by simp [he2]
        have hk2 := hok2.1
        have hse2 := hs2.add he2 hi2
        have heq : eqL (e.1.map I) (e2.1.map I) = some (decide (e.1 = e2.1)) := eqL_I (by rw [hk12, hk2])
        have h69 := c69 e.1 e2.1 hk12 hk2 fun x y h1 h2 => by have := hok.2 x h1; have := hok2.2 y h2; unfold I64; omega
        have hnext : ∀ v : Bool, (v = true ↔ (le = true ∧ (e.1 = e2.1 ∨ ¬ misS e.1 e2.1 = zer12))) → (v = true ↔ ∀ k, k ∈ see2 ++ [i2] → ∀ e', F[k]? = some e' → e.1 = e'.1 ∨ ¬ misS e.1 e'.1 = zer12) := fun v hv => by
          rw [hv, hle]
          constructor
          · rintro ⟨h1, h2⟩ k hk e' he'
            rcases List.mem_append.1 hk with hk | hk
            · exact h1 k hk e' he'
            · rw [List.mem_singleton.1 hk, he2] at he'; cases he'; exact h2
          · intro h
            exact ⟨fun k hk => h k (by simp [hk]), h i2 (by simp) e2 he2⟩
        cases le with
        | false =>
          (repeat' (first | ((with_reducible first | refine vcG_split ?_ ?_ | refine vcIf_split ?_ ?_ | refine vcQ_split ?_ ?_ | refine vcDG_split ?_ ?_) <;> intro hb <;> (try rw [hb]) <;> (try simp only [bq, bz, dtrue, dfalse] at hb) <;> (try simp only [within] at hb) <;> try (simp only [go_sem, findR, vc_o_entry, hn1, hn1', hn2, hn2', hn3, hn3', lastSeen, hil2, hg2, hg3, he2, mapIe, allOne_mapI, tk12 hk12, dr12 hk12, hk12, tk12 hk2, dr12 hk2, hk2, List.length_map, List.append_nil])) | refine And.intro (by first | exact trivial | omega | (simp only [I64]; omega)) ?_ | (with_reducible refine vcM_some fun mg => ?_) | (with_reducible refine vcMR fun mg => ?_) | (with_reducible refine vcRg_some fun rg => ?_) | (simp only [go_sem, findR, vc_o_entry, hn1, hn1', hn2, hn2', hn3, hn3', lastSeen, hil2, hg2, hg3, he2, mapIe, allOne_mapI, tk12 hk12, dr12 hk12, hk12, tk12 hk2, dr12 hk2, hk2, List.length_map, List.append_nil])))
          exact ⟨(see2 ++ [i2], false), by have := hse2.le; omega, .base (by (first | exact wk_same (by (simp only [go_sem, Int.natCast_add, cn, Int.cast_ofNat_Int])) | (refine wk_drop ?_ ?_ ?_ ?_ ?_ <;> (simp only [go_sem, Int.natCast_add, cn, Int.cast_ofNat_Int])))), hse2, hnext false (by simp)⟩
        | true =>
          have heq2 : eqL (e2.1.map I) (e2.1.map I) = some true := by rw [eqL_I rfl]; simp
          by_cases hee : e.1 = e2.1
          · (repeat' (first | ((with_reducible first | refine vcG_split ?_ ?_ | refine vcIf_split ?_ ?_ | refine vcQ_split ?_ ?_ | refine vcDG_split ?_ ?_) <;> intro hb <;> (try rw [hb]) <;> (try simp only [bq, bz, dtrue, dfalse] at hb) <;> (try simp only [within] at hb) <;> try (simp only [go_sem, findR, vc_o_entry, hn1, hn1', hn2, hn2', hn3, hn3', lastSeen, hil2, hg2, hg3, he2, mapIe, allOne_mapI, tk12 hk12, dr12 hk12, hk12, tk12 hk2, dr12 hk2, hk2, heq, heq2, hee, List.length_map, List.append_nil, or_true, if_true])) | refine And.intro (by first | exact trivial | omega | (simp only [I64]; omega)) ?_ | (with_reducible refine vcM_some fun mg => ?_) | (with_reducible refine vcMR fun mg => ?_) | (with_reducible refine vcRg_some fun rg => ?_) | (simp only [go_sem, findR, vc_o_entry, hn1, hn1', hn2, hn2', hn3, hn3', lastSeen, hil2, hg2, hg3, he2, mapIe, allOne_mapI, tk12 hk12, dr12 hk12, hk12, tk12 hk2, dr12 hk2, hk2, heq, heq2, hee, List.length_map, List.append_nil, or_true, if_true])))
            have hnx := hnext true (by simp [hee])
            rw [hee] at hnx
            exact ⟨(see2 ++ [i2], true), by have := hse2.le; omega, .base (by (first | exact wk_same (by (simp only [go_sem, Int.natCast_add, cn, Int.cast_ofNat_Int])) | (refine wk_drop ?_ ?_ ?_ ?_ ?_ <;> (simp only [go_sem, Int.natCast_add, cn, Int.cast_ofNat_Int])))), hse2, hnx⟩
          · (repeat' (first | ((with_reducible first | refine vcG_split ?_ ?_ | refine vcIf_split ?_ ?_ | refine vcQ_split ?_ ?_ | refine vcDG_split ?_ ?_) <;> intro hb <;> (try rw [hb]) <;> (try simp only [bq, bz, dtrue, dfalse] at hb) <;> (try simp only [within] at hb) <;> try (simp only [go_sem, findR, vc_o_entry, hn1, hn1', hn2, hn2', hn3, hn3', lastSeen, hil2, hg2, hg3, he2, mapIe, allOne_mapI, tk12 hk12, dr12 hk12, hk12, tk12 hk2, dr12 hk2, hk2, heq, hee, List.length_map, List.append_nil, or_true, if_true])) | refine And.intro (by first | exact trivial | omega | (simp only [I64]; omega)) ?_ | (with_reducible refine vcM_some fun mg => ?_) | (with_reducible refine vcMR fun mg => ?_) | (with_reducible refine vcRg_some fun rg => ?_) | (simp only [go_sem, findR, vc_o_entry, hn1, hn1', hn2, hn2', hn3, hn3', lastSeen, hil2, hg2, hg3, he2, mapIe, allOne_mapI, tk12 hk12, dr12 hk12, hk12, tk12 hk2, dr12 hk2, hk2, heq, hee, List.length_map, List.append_nil, or_true, if_true])))
            refine vcP_pure h69 rfl (by (simp only [go_sem, pureL_mapI, AV.pureL, AV.pure, Bool.and_self])) (by (simp only [go_sem, frzL_mapI])) ?_
            (repeat' (first | ((with_reducible first | refine vcG_split ?_ ?_ | refine vcIf_split ?_ ?_ | refine vcQ_split ?_ ?_ | refine vcDG_split ?_ ?_) <;> intro hb <;> (try rw [hb]) <;> (try simp only [bq, bz, dtrue, dfalse] at hb) <;> (try simp only [within] at hb) <;> try (simp only [go_sem])) | refine And.intro (by first | exact trivial | omega | (simp only [I64]; omega)) ?_ | (with_reducible refine vcM_some fun mg => ?_) | (with_reducible refine vcMR fun mg => ?_) | (with_reducible refine vcRg_some fun rg => ?_) | (simp only [go_sem])))
            exact ⟨(see2 ++ [i2], !decide (misS e.1 e2.1 = zer12)), by have := hse2.le; omega, .base (by (first | exact wk_same (by (simp only [go_sem, Int.natCast_add, cn, Int.cast_ofNat_Int])) | (refine wk_drop ?_ ?_ ?_ ?_ ?_ <;> (simp only [go_sem, Int.natCast_add, cn, Int.cast_ofNat_Int])))), hse2, hnext _ (by simp [hee])⟩
end Go.Proofs.YtoadkchhimojlaaGreat

