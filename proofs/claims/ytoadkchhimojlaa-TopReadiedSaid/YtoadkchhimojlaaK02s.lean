/- Contracts of functions of the given program, without a condition beyond those that each theorem states; they lead to the given statement. -/
import Derived.Test.YtoadkchhimojlaaK02j
import Derived.Test.YtoadkchhimojlaaFlC
set_option linter.unusedSimpArgs false
set_option linter.unusedVariables false
set_option maxRecDepth 100000
namespace Go.Proofs.Ytoadkchhimojlaa.W2
open Go Go.Fl
open Classical
theorem shift_mapD {n : Nat} {l : List Mould} : List.map (shiftL n) (List.map encD l) = List.map encD l := by
  rw [List.map_map]; exact List.map_congr_left fun a _ => by simp [encD, shiftL, shiftV]
theorem shift_mapW {n : Nat} {l : List (List Int)} : List.map (shiftL n) (List.map encW l) = List.map encW l := by
  rw [List.map_map]; exact List.map_congr_left fun a _ => by simp [encW, shiftL, shiftV]
theorem sub_mapD {b n : Nat} {v : AV} {l : List Mould} : List.map (subL b n v) (List.map encD l) = List.map encD l := by
  rw [List.map_map]; exact List.map_congr_left fun a _ => by simp [encD, subL, subV]
theorem sub_mapW {b n : Nat} {v : AV} {l : List (List Int)} : List.map (subL b n v) (List.map encW l) = List.map encW l := by
  rw [List.map_map]; exact List.map_congr_left fun a _ => by simp [encW, subL, subV]
attribute [go_sem] shift_mapD shift_mapW sub_mapD sub_mapW
def exS : Shop := ⟨[⟨0, 3, 0⟩, ⟨0, 5, 0⟩, ⟨1, 2, 1⟩, ⟨1, 0, 0⟩], [[8, 9, 2, 4], [6, 9, 2, 6], [12, 7, 2, 3], [9, 9, 4, 9]], [5, 3], 6⟩
theorem exS_valid : valid exS := ⟨by decide, by decide, by decide, ⟨by decide, by decide⟩, by simp [exS, within], by simp [exS, okM, within], by simp [exS, okW, within]⟩
end Go.Proofs.Ytoadkchhimojlaa.W2

