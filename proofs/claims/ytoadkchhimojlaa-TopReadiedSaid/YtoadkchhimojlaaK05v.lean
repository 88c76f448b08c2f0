/- Contracts of functions of the given program, without a condition beyond those that each theorem states; they lead to the given statement. -/
import Derived.Test.YtoadkchhimojlaaK05u
set_option linter.unusedSimpArgs false
set_option linter.unusedVariables false
set_option maxRecDepth 100000
namespace Go.Proofs.Ytoadkchhimojlaa.W5
open Go Go.Fl
open Classical
def encL (l : List Int) : List AV := [lN l]
theorem pureLL (L : List (List Int)) : pureE (L.map encL) = True := pureE_map fun _ => rfl
theorem sub_mapL {b n : Nat} {v : AV} {l : List (List Int)} : List.map (subL b n v) (List.map encL l) = List.map encL l := by
  rw [List.map_map]; exact List.map_congr_left fun a _ => by simp [encL, subL, subV]
theorem shift_mapL {n : Nat} {l : List (List Int)} : List.map (shiftL n) (List.map encL l) = List.map encL l := by
  rw [List.map_map]; exact List.map_congr_left fun a _ => by simp [encL, shiftL, shiftV]
theorem shift_mapN {n : Nat} {l : List Int} : List.map (shiftL n) (List.map encN l) = List.map encN l := by
  rw [List.map_map]; exact List.map_congr_left fun a _ => by simp [encN, shiftL, shiftV]
theorem sub_encL {b n : Nat} {v : AV} {l : List Int} : subL b n v (encL l) = encL l := by simp [encL, subL, subV]
attribute [go_sem] sub_encL pureLL sub_mapL shift_mapL shift_mapN
end Go.Proofs.Ytoadkchhimojlaa.W5

