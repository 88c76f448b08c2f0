/- A framework of general lemmas over the model (an abstract machine); no statement of the seat is proved here, and none has a condition. -/
import Derived.Test.YtekdocalipchpaaFlB
/- Lists whose capacity is known to be their length, taken for lists. -/
set_option linter.unusedSimpArgs false
set_option linter.unusedVariables false
set_option linter.unusedVariables false
namespace Go.Fl
open Go.RowKit
mutual
def loV : AV → AV
  | .lst _ sz es => .lst false sz (loE es)
  | .agg cs => .agg (loL cs)
  | .tup cs => .tup (loL cs)
  | .pp cs => .pp (loL cs)
  | .fn f cs => .fn f (loL cs)
  | .bf f cs => .bf f (loL cs)
  | .any => .any
  | .int k n => .int k n
  | .bool b => .bool b
  | .nilS => .nilS
  | .nilP => .nilP
  | .nilF => .nilF
  | .row b n => .row b n
  | .lp b o => .lp b o
  | .rp b n i o => .rp b n i o
  | .yld l => .yld l
def loL : List AV → List AV
  | [] => []
  | v :: vs => loV v :: loL vs
def loE : List (List AV) → List (List AV)
  | [] => []
  | e :: es => loL e :: loE es
end
theorem loL_length : ∀ vs : List AV, (loL vs).length = vs.length
  | [] => rfl
  | _ :: vs => by simp [loL, loL_length vs]
theorem loE_length : ∀ es : List (List AV), (loE es).length = es.length
  | [] => rfl
  | _ :: es => by simp [loE, loE_length es]
theorem loE_mem : ∀ {es : List (List AV)} {sz : Nat}, (∀ e, e ∈ es → e.length = sz) → ∀ e, e ∈ loE es → e.length = sz
  | [], _, _, e, h => by simp [loE] at h
  | x :: es, sz, hh, e, h => by
    simp only [loE, List.mem_cons] at h
    rcases h with rfl | h
    · rw [loL_length]; exact hh x (by simp)
    · exact loE_mem (fun y hy => hh y (by simp [hy])) e h
section
variable {S : Nat → Nat → Prop} {w : World}
mutual
theorem PV.lo : ∀ (v : AV) (c : Value), PV S w v c → PV S w (loV v) c
  | .any, _, _ => trivial
  | .int _ _, _, hv => hv
  | .bool _, _, hv => hv
  | .nilS, _, hv => hv
  | .nilP, _, hv => hv
  | .nilF, _, hv => hv
  | .agg cs, _, ⟨a, e, hl⟩ => ⟨a, e, PVL.lo cs _ hl⟩
  | .tup cs, _, ⟨a, e, hl⟩ => ⟨a, e, PVL.lo cs _ hl⟩
  | .lst f sz es, _, ⟨A, cap, e, h1, h2, h3, h4, h5, h6⟩ => ⟨A, cap, by rw [loE_length]; exact e, by rw [loE_length]; exact h1, h2, (fun h => by cases h), fun ad ha => ⟨(h4 ad ha).1, PVE.lo sz es ad (h4 ad ha).2⟩, h5, loE_mem h6⟩
  | .row _ _, _, hv => hv
  | .pp cs, _, ⟨ad, e, h1, h2⟩ => ⟨ad, e, h1, PVC.lo cs ad h2⟩
  | .lp _ _, _, hv => hv
  | .rp _ _ _ _, _, hv => hv
  | .fn _ cs, _, ⟨a, e, hl⟩ => ⟨a, e, PVL.lo cs _ hl⟩
  | .bf _ cs, _, ⟨a, e, hl⟩ => ⟨a, e, PVL.lo cs _ hl⟩
  | .yld _, _, hv => hv
theorem PVL.lo : ∀ (vs : List AV) (l : List Value), PVL S w vs l → PVL S w (loL vs) l
  | [], _, hv => hv
  | v :: vs, _, ⟨c, cs, e, h1, h2⟩ => ⟨c, cs, e, PV.lo v c h1, PVL.lo vs cs h2⟩
theorem PVC.lo : ∀ (vs : List AV) (ad : Addr), PVC S w vs ad → PVC S w (loL vs) ad
  | [], _, _ => trivial
  | v :: vs, ad, ⟨⟨c, h1, h2, h3, h4⟩, h5⟩ => ⟨⟨c, h1, h2, h3, PV.lo v c h4⟩, PVC.lo vs _ h5⟩
theorem PVE.lo (sz : Nat) : ∀ (es : List (List AV)) (ad : Addr), PVE S w sz es ad → PVE S w sz (loE es) ad
  | [], _, _ => trivial
  | e :: es, ad, ⟨h1, h2⟩ => ⟨PVC.lo e ad h1, PVE.lo sz es _ h2⟩
end
end
theorem VL.lo {κ : Cx} {vs : List AV} {l : List Value} (hp : AV.pureL vs = true) (h : VL κ vs l) : VL κ (loL vs) l :=
  VL.of_pvl _ _ (PVL.lo _ _ (PVL.of_v _ _ hp h))
theorem HCH.lo {P : Program} {g : FuncId} {args : List AV} {H : Heap} {Q : AV → Heap → Prop} (h : HCH P g (loL args) H Q) (hp : AV.pureL args = true) : HCH P g args H Q :=
  ⟨h.1, fun κ cargs hc hH hv => h.2 κ cargs hc hH (hv.lo hp)⟩
theorem PC.lo {P : Program} {g : FuncId} {args : List AV} {v : AV} (h : PC P g (loL args) v) (hp : AV.pureL args = true) : PC P g args v := PC.mk (HCH.lo h.raw hp)
end Go.Fl
