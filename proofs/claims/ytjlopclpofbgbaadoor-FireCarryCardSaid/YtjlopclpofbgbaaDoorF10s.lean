/- Contracts of functions of the given program, without a condition beyond those that each theorem states; they lead to the given statement. -/
import Derived.Test.YtjlopclpofbgbaaDoorF10r
set_option linter.unusedSimpArgs false
set_option linter.unusedVariables false
set_option maxRecDepth 100000
namespace Go.Proofs.YtjlopclpofbgbaaDoor
open Go Go.Fl
open Classical
abbrev Best := Option (List Int × Int × Int)
def lstS : Best → AV | none => .nilS | some x => lN x.1
def pS : Best → Int | none => 0 | some x => x.2.1
def qS : Best → Int | none => 0 | some x => x.2.2
def eS : Best → Int | none => 3 | some _ => 0
theorem lstS_n : lstS none = .nilS := rfl
theorem lstS_s {x : List Int × Int × Int} : lstS (some x) = lN x.1 := rfl
theorem pS_n : pS none = 0 := rfl
theorem pS_s {x : List Int × Int × Int} : pS (some x) = x.2.1 := rfl
theorem qS_n : qS none = 0 := rfl
theorem qS_s {x : List Int × Int × Int} : qS (some x) = x.2.2 := rfl
theorem eS_n : eS none = 3 := rfl
theorem eS_s {x : List Int × Int × Int} : eS (some x) = 0 := rfl
def worse (S : Best) (a b : Int) : Prop := ∃ x, S = some x ∧ ¬ lexlt (a, b) (x.2.1, x.2.2)
def endP (t : Town) (pre : List Int) : Prop := roomy t pre ∧ safeP { t with pl := pre }
noncomputable def vis (t : Town) : Nat → List Int → Int → Int → Best → Best
  | 0, pre, a, b, S => if worse S a b then S else if endP t pre then some (pre, a, b) else S
  | d + 1, pre, a, b, S => if worse S a b then S else (List.range t.rm.length).foldl (fun S (i : Nat) => if (i : Int) = gv t.pl pre.length then vis t d (pre ++ [(i : Int)]) a b S else if there t pre.length then vis t d (pre ++ [(i : Int)]) (a + gv t.ca pre.length) (b + 1) S else S) S
noncomputable def visT (t : Town) (d : Nat) (pre : List Int) (a b : Int) (S : Best) (j : Nat) : Best := (List.range j).foldl (fun S (i : Nat) => if (i : Int) = gv t.pl pre.length then vis t d (pre ++ [(i : Int)]) a b S else if there t pre.length then vis t d (pre ++ [(i : Int)]) (a + gv t.ca pre.length) (b + 1) S else S) S
theorem vis_zero {t : Town} {pre : List Int} {a b : Int} {S : Best} : vis t 0 pre a b S = if worse S a b then S else if endP t pre then some (pre, a, b) else S := rfl
theorem vis_succ {t : Town} {d : Nat} {pre : List Int} {a b : Int} {S : Best} : vis t (d + 1) pre a b S = if worse S a b then S else visT t d pre a b S t.rm.length := rfl
theorem visT_zero {t : Town} {d : Nat} {pre : List Int} {a b : Int} {S : Best} : visT t d pre a b S 0 = S := rfl
theorem visT_succ {t : Town} {d : Nat} {pre : List Int} {a b : Int} {S : Best} {j : Nat} : visT t d pre a b S (j + 1) = if (j : Int) = gv t.pl pre.length then vis t d (pre ++ [(j : Int)]) a b (visT t d pre a b S j) else if there t pre.length then vis t d (pre ++ [(j : Int)]) (a + gv t.ca pre.length) (b + 1) (visT t d pre a b S j) else visT t d pre a b S j := by
  simp only [visT, List.range_succ, List.foldl_append, List.foldl_cons, List.foldl_nil]
def goodS (S : Best) : Prop := ∀ x, S = some x → (0 ≤ x.2.1 ∧ x.2.1 ≤ 1000) ∧ 0 ≤ x.2.2 ∧ x.2.2 ≤ 1000
theorem ca_bnd {t : Town} (hv : validT t) {k : Nat} (hk : k < t.ts.length) : 0 ≤ gv t.ca k ∧ gv t.ca k ≤ 99 := by
  obtain ⟨c, hc⟩ := get_of (l := t.ca) (j := k) (by rw [hv.lc]; exact hk)
  have := hv.2.2.2.2.2.2.1 c (List.mem_of_getElem? hc)
  rw [gv_nat hc]
  exact this
theorem vis_good {t : Town} (hv : validT t) : ∀ (d : Nat) (pre : List Int) (a b : Int) (S : Best), pre.length + d = t.ts.length → 0 ≤ a → a ≤ 99 * pre.length → 0 ≤ b → b ≤ pre.length → goodS S → goodS (vis t d pre a b S)
  | 0, pre, a, b, S, hl, a0, a1, b0, b1, hS => by
    have h8 := hv.len
    rw [vis_zero]
    split
    · exact hS
    · split
      · intro x hx; cases hx; simp only; omega
      · exact hS
  | d + 1, pre, a, b, S, hl, a0, a1, b0, b1, hS => by
    have h8 := hv.len
    rw [vis_succ]
    split
    · exact hS
    · have hc := ca_bnd hv (k := pre.length) (by omega)
      have key : ∀ j, goodS (visT t d pre a b S j) := fun j => by
        induction j with
        | zero => exact hS
        | succ j ih =>
          rw [visT_succ]
          split
          · exact vis_good hv d _ _ _ _ (by simp; omega) a0 (by simp; omega) b0 (by simp; omega) ih
          · split
            · exact vis_good hv d _ _ _ _ (by simp; omega) (by omega) (by simp; omega) (by omega) (by simp; omega) ih
            · exact ih
      exact key _
theorem visT_good {t : Town} (hv : validT t) {d : Nat} {pre : List Int} {a b : Int} {S : Best} (hl : pre.length + (d + 1) = t.ts.length) (a0 : 0 ≤ a) (a1 : a ≤ 99 * pre.length) (b0 : 0 ≤ b) (b1 : b ≤ pre.length) (hS : goodS S) (j : Nat) : goodS (visT t d pre a b S j) := by
  have hc := ca_bnd hv (k := pre.length) (by omega)
  induction j with
  | zero => exact hS
  | succ j ih =>
    rw [visT_succ]
    split
    · exact vis_good hv d _ _ _ _ (by simp; omega) a0 (by simp; omega) b0 (by simp; omega) ih
    · split
      · exact vis_good hv d _ _ _ _ (by simp; omega) (by omega) (by simp; omega) (by omega) (by simp; omega) ih
      · exact ih
abbrev capR : List AV := [.lp 8 0, .lp 7 0, .lp 9 0, .lp 5 0, .lp 6 0, .lp 11 0]
theorem pgN_pl {t : Town} {c : List Int} : ∀ (n : Nat) (i : Int), pgN { t with pl := c } n i = pgN t n i
  | 0, i => rfl
  | n + 1, i => by
    have e : ofT { t with pl := c } i = ofT t i := rfl
    simp only [pgN, e, pgN_pl n]
theorem pg_pl {t : Town} {c : List Int} (i : Int) : pg { t with pl := c } i = pg t i := pgN_pl _ _
theorem gs_pl {t : Town} {c : List Int} (j : Nat) : gs { t with pl := c } j = gs t j := by
  unfold gs
  refine List.map_congr_left fun i _ => ?_
  simp only [encG, pg_pl]; rfl
theorem mG_pl {t : Town} {c : List Int} (j : Nat) : mG { t with pl := c } j = mG t j := by
  funext x
  have e0 : inG { t with pl := c } j x = inG t j x := by simp only [inG, pg_pl]; rfl
  have e : hsG { t with pl := c } j x = hsG t j x := by funext k; simp only [hsG, pg_pl]; rfl
  unfold mG
  rw [e, e0]
theorem cntP_pl {t : Town} {c pl : List Int} {b : Int} : ∀ k, cntP { t with pl := c } pl b k = cntP t pl b k
  | 0 => rfl
  | k + 1 => by simp only [cntP, cntP_pl k]; rfl
theorem roomy_pl {t : Town} {c pl : List Int} : roomy { t with pl := c } pl = roomy t pl := by
  unfold roomy; simp only [cntP_pl]
theorem h94c (t : Town) (hv : validT t) (cur : List Int) (hl : cur.length = t.ts.length) (hw : ∀ x, x ∈ cur → within x 0 (t.rm.length - 1)) : PC Tryd.prog 94 [.agg [.lst false 4 (t.ts.map encT), .lst false 3 (t.ms.map encM), lN cur, lN t.ca, lN t.rm, .int .i64 t.mi], lN cur] (.bool (decide (roomy t cur))) := by
  have h8 := hv.len
  have hr := hv.2.1
  unfold within at hr
  have := c94 { t with pl := cur } cur (by simp only; omega) (by omega) hw hv.2.2.1 (by simp only; omega)
  simp only [roomy_pl] at this
  exact this
theorem h98c (t : Town) (hv : validT t) (cur : List Int) (hl : cur.length = t.ts.length) : PC Tryd.prog 98 [.pp [.lst false 4 (t.ts.map encT), .lst false 3 (t.ms.map encM), lN cur, lN t.ca, lN t.rm, .int .i64 t.mi, .lst false 3 (gs t t.ts.length), .pm Tryd.prog 91 .u64 (mG t t.ts.length)]] (.bool (decide (safeP { t with pl := cur }))) := by
  have := c98 { t with pl := cur } hv.things hv.len hl
  simp only [hG, cG, gs_pl, mG_pl] at this
  exact this
theorem h105f (l : List Int) (hl : l.length ≤ 1000) (H : Heap) (b : Nat) (sl : Bool) (hb : H[b]? = some (.row 3 1 (l.map encN) sl)) : HCH Tryd.prog 105 [.row b l.length] H fun r H' => r = .row H.length l.length ∧ H' = H ++ [.row 3 1 (l.map encN) false] := by
  refine (HCH.freeze (h105 l hl) (by simp only [frzL, frz, hb, List.length_map, true_and, and_true]; exact frzN) (fun r H' hq => ?_)).mono ?_
  · rw [hq.1, hq.2]
    exact ⟨rfl, by simp only [safeH, safeB, and_true]; intro e he; obtain ⟨a, _, rfl⟩ := List.mem_map.1 he; rfl⟩
  · rintro r H' ⟨r0, H0, ⟨rfl, rfl⟩, rfl, rfl⟩
    exact ⟨by simp [shiftV], by simp only [List.map_cons, List.map_nil, shiftB, shift_mapN]⟩
theorem getEnd2 {A : Heap} {x y : Blk} : (A ++ [x] ++ [y])[A.length]? = some x := by rw [List.append_assoc, List.getElem?_append_right (Nat.le_refl _), Nat.sub_self]; rfl
theorem getEnd {A : Heap} {x : Blk} : (A ++ [x])[A.length]? = some x := by rw [List.getElem?_append_right (Nat.le_refl _), Nat.sub_self]; rfl
theorem setEnd {A : Heap} {x z : Blk} : (A ++ [x]).set A.length z = A ++ [z] := by rw [List.set_append_right _ _ (Nat.le_refl _), Nat.sub_self]; rfl
theorem belowH_app {n : Nat} : ∀ {A B : Heap}, belowH n (A ++ B) = (belowH n A ∧ belowH n B)
  | [], B => by simp [belowH]
  | a :: A, B => by simp only [List.cons_append, belowH, belowH_app (A := A), and_assoc]
theorem pfx_app : ∀ {A B C : Heap}, pfx (A ++ B) (A ++ C) = pfx B C
  | [], B, C => rfl
  | a :: A, B, C => by simp only [List.cons_append, pfx, true_and, pfx_app (A := A)]
theorem getEnd3 {A : Heap} {x y : Blk} : (A ++ [x] ++ [y])[A.length + 1]? = some y := by rw [List.append_assoc, List.getElem?_append_right (by omega), Nat.add_sub_cancel_left]; rfl
theorem setEnd2 {A : Heap} {x y z : Blk} : (A ++ [x] ++ [y]).set (A.length + 1) z = A ++ [x] ++ [z] := by rw [List.append_assoc, List.set_append_right _ _ (by omega), Nat.add_sub_cancel_left, List.append_assoc]; rfl
theorem setEnd3 {A : Heap} {x y z : Blk} : (A ++ [x, y]).set (A.length + 1) z = A ++ [x, z] := by rw [List.set_append_right _ _ (by omega), Nat.add_sub_cancel_left]; rfl
theorem tk_pre {pre : List Int} {x : Int} {c : List Int} (h : c.take (pre.length + 1) = pre ++ [x]) : c.take pre.length = pre := by
  have := congrArg (List.take pre.length) h
  rw [List.take_take, Nat.min_eq_left (by simp), List.take_left' rfl] at this
  exact this
theorem belowV_lstS {n : Nat} : ∀ {S : Best}, belowV n (lstS S) = true
  | none => rfl
  | some x => rfl
theorem belowB_gs {n k : Nat} {t : Town} {s : Bool} : belowB n (.row 89 3 (gs t k) s) = True := belowB_row (by rw [gs_pure]; trivial)
theorem belowB_nums {n : Nat} {l : List Int} {s : Bool} : belowB n (.row 3 1 (l.map encN) s) = True := belowB_row (by rw [pureN]; trivial)
theorem sub_gs {b n k : Nat} {v : AV} {t : Town} : List.map (subL b n v) (gs t k) = gs t k := by
  unfold gs
  rw [List.map_map]; exact List.map_congr_left fun a _ => by simp [encG, subL, subV]
theorem worse_none {a b : Int} : ¬ worse none a b := by rintro ⟨x, h, _⟩; cases h
end Go.Proofs.YtjlopclpofbgbaaDoor

