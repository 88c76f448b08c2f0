/-
  No cell of these rows narrows 'for every input' (looked for: loops, veiled, ifaces, maps, wideKeys, modest, calm, conditions, laid).
  DERIVED. THE GIVEN ROWS OF THIS SEAT. 12 by the template 'for every input the law returns true; each argument reads behind the call as it read before'; 0 by the template 'total and deterministic' (their statements: YtllmohmgakdbdaaTotals.lean).
  GIVEN WITH THE SEED: the statements are not yours to turn. If you find one false, say at which input.
  Laid BY PROGRAM, IN A SANDBOX (cutbox-rows.mjs): the forced cells as the released guide's own fill.sh prints them over the translation bd8f3eb6ab3ae1ca… (all of the seat's roots in one cut). By AI agents, Wed Nov 11 2026. No macro, syntax, notation, axiom, sorry.
-/
import Derived.Test.YtllmohmgakdbdaaChecked
import GoSem.Claim
import GoSem.ClaimJoined
import GoSem.ClaimMapViews
import Derived.JoinedTies
import Derived.KernelRfl
namespace Go.Proofs.Ytllmohmgakdbdaa
/- THE CELL 'sum', in the pinned program and in every row, IS THE sha256 OF THE DUMP (.gsa) THAT YtllmohmgakdbdaaProg.lean LOADS. Nothing in Lean hashes anything: it is a label: what it is worth is what the hold of that sum in a sandbox is worth. -/
noncomputable def Try.pinned : Pinned := { name := "ytllmohmgakdbdaa", sum := "bd8f3eb6ab3ae1caab89346ddef1f91adaeded3f39b618a0c19cdc87945ed85c", checked := Try.checked }
namespace Rows
def none {H : Type} : Left H := { results := [], args := [] }

/-- 'flonglaw07.ChangesLeast': WHATEVER THE INPUT: true; the input reads as it did. -/
def changesLeastSpec : ChangeSpec := { name := "changesLeast", fn := fun _ => fun
  | [d1, d2, d3] => { results := [.lit (.bool true)], args := [d1, d2, d3] }
  | _ => none }
def changesLeastRow : OpenClaim := { program := "ytllmohmgakdbdaa", sum := "bd8f3eb6ab3ae1caab89346ddef1f91adaeded3f39b618a0c19cdc87945ed85c", func := "flong/flonglaw07.ChangesLeast", spec := "changesLeast", unfollowed := true, recurses := true, apart := false }
def ChangesLeastSaid : Prop := changesLeastRow.holds Try.pinned (OpenSpec.ofChange changesLeastSpec)

/-- ITS FALSE NEIGHBOUR: 'it returns false'. Refute it at one input. -/
def changesLeastWrong : ChangeSpec := { name := "changesLeast", fn := fun _ => fun
  | [d1, d2, d3] => { results := [.lit (.bool false)], args := [d1, d2, d3] }
  | _ => none }
def ChangesLeastWrongFalsely : Prop := changesLeastRow.holds Try.pinned (OpenSpec.ofChange changesLeastWrong)

/-- 'flonglaw07.ChangesDearer': WHATEVER THE INPUT: true; the input reads as it did. -/
def changesDearerSpec : ChangeSpec := { name := "changesDearer", fn := fun _ => fun
  | [d1, d2, d3] => { results := [.lit (.bool true)], args := [d1, d2, d3] }
  | _ => none }
def changesDearerRow : OpenClaim := { program := "ytllmohmgakdbdaa", sum := "bd8f3eb6ab3ae1caab89346ddef1f91adaeded3f39b618a0c19cdc87945ed85c", func := "flong/flonglaw07.ChangesDearer", spec := "changesDearer", unfollowed := true, recurses := true, apart := false }
def ChangesDearerSaid : Prop := changesDearerRow.holds Try.pinned (OpenSpec.ofChange changesDearerSpec)

/-- ITS FALSE NEIGHBOUR: 'it returns false'. Refute it at one input. -/
def changesDearerWrong : ChangeSpec := { name := "changesDearer", fn := fun _ => fun
  | [d1, d2, d3] => { results := [.lit (.bool false)], args := [d1, d2, d3] }
  | _ => none }
def ChangesDearerWrongFalsely : Prop := changesDearerRow.holds Try.pinned (OpenSpec.ofChange changesDearerWrong)

/-- 'flonglaw07.ChangesMixes': WHATEVER THE INPUT: true; the input reads as it did. -/
def changesMixesSpec : ChangeSpec := { name := "changesMixes", fn := fun _ => fun
  | [d1, d2, d3] => { results := [.lit (.bool true)], args := [d1, d2, d3] }
  | _ => none }
def changesMixesRow : OpenClaim := { program := "ytllmohmgakdbdaa", sum := "bd8f3eb6ab3ae1caab89346ddef1f91adaeded3f39b618a0c19cdc87945ed85c", func := "flong/flonglaw07.ChangesMixes", spec := "changesMixes", unfollowed := true, recurses := true, apart := false }
def ChangesMixesSaid : Prop := changesMixesRow.holds Try.pinned (OpenSpec.ofChange changesMixesSpec)

/-- ITS FALSE NEIGHBOUR: 'it returns false'. Refute it at one input. -/
def changesMixesWrong : ChangeSpec := { name := "changesMixes", fn := fun _ => fun
  | [d1, d2, d3] => { results := [.lit (.bool false)], args := [d1, d2, d3] }
  | _ => none }
def ChangesMixesWrongFalsely : Prop := changesMixesRow.holds Try.pinned (OpenSpec.ofChange changesMixesWrong)

/-- 'flonglaw07.ChangesStays': WHATEVER THE INPUT: true; the input reads as it did. -/
def changesStaysSpec : ChangeSpec := { name := "changesStays", fn := fun _ => fun
  | [d1, d2, d3] => { results := [.lit (.bool true)], args := [d1, d2, d3] }
  | _ => none }
def changesStaysRow : OpenClaim := { program := "ytllmohmgakdbdaa", sum := "bd8f3eb6ab3ae1caab89346ddef1f91adaeded3f39b618a0c19cdc87945ed85c", func := "flong/flonglaw07.ChangesStays", spec := "changesStays", unfollowed := true, recurses := true, apart := false }
def ChangesStaysSaid : Prop := changesStaysRow.holds Try.pinned (OpenSpec.ofChange changesStaysSpec)

/-- ITS FALSE NEIGHBOUR: 'it returns false'. Refute it at one input. -/
def changesStaysWrong : ChangeSpec := { name := "changesStays", fn := fun _ => fun
  | [d1, d2, d3] => { results := [.lit (.bool false)], args := [d1, d2, d3] }
  | _ => none }
def ChangesStaysWrongFalsely : Prop := changesStaysRow.holds Try.pinned (OpenSpec.ofChange changesStaysWrong)

/-- 'flonglaw07.ChangesLast': WHATEVER THE INPUT: true; the input reads as it did. -/
def changesLastSpec : ChangeSpec := { name := "changesLast", fn := fun _ => fun
  | [d1, d2] => { results := [.lit (.bool true)], args := [d1, d2] }
  | _ => none }
def changesLastRow : OpenClaim := { program := "ytllmohmgakdbdaa", sum := "bd8f3eb6ab3ae1caab89346ddef1f91adaeded3f39b618a0c19cdc87945ed85c", func := "flong/flonglaw07.ChangesLast", spec := "changesLast", unfollowed := true, recurses := true, apart := false }
def ChangesLastSaid : Prop := changesLastRow.holds Try.pinned (OpenSpec.ofChange changesLastSpec)

/-- ITS FALSE NEIGHBOUR: 'it returns false'. Refute it at one input. -/
def changesLastWrong : ChangeSpec := { name := "changesLast", fn := fun _ => fun
  | [d1, d2] => { results := [.lit (.bool false)], args := [d1, d2] }
  | _ => none }
def ChangesLastWrongFalsely : Prop := changesLastRow.holds Try.pinned (OpenSpec.ofChange changesLastWrong)

/-- 'flonglaw07.ChangesMixed': WHATEVER THE INPUT: true; the input reads as it did. -/
def changesMixedSpec : ChangeSpec := { name := "changesMixed", fn := fun _ => fun
  | [d1, d2, d3] => { results := [.lit (.bool true)], args := [d1, d2, d3] }
  | _ => none }
def changesMixedRow : OpenClaim := { program := "ytllmohmgakdbdaa", sum := "bd8f3eb6ab3ae1caab89346ddef1f91adaeded3f39b618a0c19cdc87945ed85c", func := "flong/flonglaw07.ChangesMixed", spec := "changesMixed", unfollowed := true, recurses := true, apart := false }
def ChangesMixedSaid : Prop := changesMixedRow.holds Try.pinned (OpenSpec.ofChange changesMixedSpec)

/-- ITS FALSE NEIGHBOUR: 'it returns false'. Refute it at one input. -/
def changesMixedWrong : ChangeSpec := { name := "changesMixed", fn := fun _ => fun
  | [d1, d2, d3] => { results := [.lit (.bool false)], args := [d1, d2, d3] }
  | _ => none }
def ChangesMixedWrongFalsely : Prop := changesMixedRow.holds Try.pinned (OpenSpec.ofChange changesMixedWrong)

/-- 'flonglaw07.ChangesHas': WHATEVER THE INPUT: true; the input reads as it did. -/
def changesHasSpec : ChangeSpec := { name := "changesHas", fn := fun _ => fun
  | [d1, d2] => { results := [.lit (.bool true)], args := [d1, d2] }
  | _ => none }
def changesHasRow : OpenClaim := { program := "ytllmohmgakdbdaa", sum := "bd8f3eb6ab3ae1caab89346ddef1f91adaeded3f39b618a0c19cdc87945ed85c", func := "flong/flonglaw07.ChangesHas", spec := "changesHas", unfollowed := true, recurses := true, apart := false }
def ChangesHasSaid : Prop := changesHasRow.holds Try.pinned (OpenSpec.ofChange changesHasSpec)

/-- ITS FALSE NEIGHBOUR: 'it returns false'. Refute it at one input. -/
def changesHasWrong : ChangeSpec := { name := "changesHas", fn := fun _ => fun
  | [d1, d2] => { results := [.lit (.bool false)], args := [d1, d2] }
  | _ => none }
def ChangesHasWrongFalsely : Prop := changesHasRow.holds Try.pinned (OpenSpec.ofChange changesHasWrong)

/-- 'flonglaw07.ChangesFrom': WHATEVER THE INPUT: true; the input reads as it did. -/
def changesFromSpec : ChangeSpec := { name := "changesFrom", fn := fun _ => fun
  | [d1, d2] => { results := [.lit (.bool true)], args := [d1, d2] }
  | _ => none }
def changesFromRow : OpenClaim := { program := "ytllmohmgakdbdaa", sum := "bd8f3eb6ab3ae1caab89346ddef1f91adaeded3f39b618a0c19cdc87945ed85c", func := "flong/flonglaw07.ChangesFrom", spec := "changesFrom", unfollowed := true, recurses := true, apart := false }
def ChangesFromSaid : Prop := changesFromRow.holds Try.pinned (OpenSpec.ofChange changesFromSpec)

/-- ITS FALSE NEIGHBOUR: 'it returns false'. Refute it at one input. -/
def changesFromWrong : ChangeSpec := { name := "changesFrom", fn := fun _ => fun
  | [d1, d2] => { results := [.lit (.bool false)], args := [d1, d2] }
  | _ => none }
def ChangesFromWrongFalsely : Prop := changesFromRow.holds Try.pinned (OpenSpec.ofChange changesFromWrong)

/-- 'flonglaw07.ChangesAll': WHATEVER THE INPUT: true; the input reads as it did. -/
def changesAllSpec : ChangeSpec := { name := "changesAll", fn := fun _ => fun
  | [d1, d2] => { results := [.lit (.bool true)], args := [d1, d2] }
  | _ => none }
def changesAllRow : OpenClaim := { program := "ytllmohmgakdbdaa", sum := "bd8f3eb6ab3ae1caab89346ddef1f91adaeded3f39b618a0c19cdc87945ed85c", func := "flong/flonglaw07.ChangesAll", spec := "changesAll", unfollowed := true, recurses := true, apart := false }
def ChangesAllSaid : Prop := changesAllRow.holds Try.pinned (OpenSpec.ofChange changesAllSpec)

/-- ITS FALSE NEIGHBOUR: 'it returns false'. Refute it at one input. -/
def changesAllWrong : ChangeSpec := { name := "changesAll", fn := fun _ => fun
  | [d1, d2] => { results := [.lit (.bool false)], args := [d1, d2] }
  | _ => none }
def ChangesAllWrongFalsely : Prop := changesAllRow.holds Try.pinned (OpenSpec.ofChange changesAllWrong)

/-- 'flonglaw07.ChangesOther': WHATEVER THE INPUT: true; the input reads as it did. -/
def changesOtherSpec : ChangeSpec := { name := "changesOther", fn := fun _ => fun
  | [d1, d2, d3] => { results := [.lit (.bool true)], args := [d1, d2, d3] }
  | _ => none }
def changesOtherRow : OpenClaim := { program := "ytllmohmgakdbdaa", sum := "bd8f3eb6ab3ae1caab89346ddef1f91adaeded3f39b618a0c19cdc87945ed85c", func := "flong/flonglaw07.ChangesOther", spec := "changesOther", unfollowed := true, recurses := true, apart := false }
def ChangesOtherSaid : Prop := changesOtherRow.holds Try.pinned (OpenSpec.ofChange changesOtherSpec)

/-- ITS FALSE NEIGHBOUR: 'it returns false'. Refute it at one input. -/
def changesOtherWrong : ChangeSpec := { name := "changesOther", fn := fun _ => fun
  | [d1, d2, d3] => { results := [.lit (.bool false)], args := [d1, d2, d3] }
  | _ => none }
def ChangesOtherWrongFalsely : Prop := changesOtherRow.holds Try.pinned (OpenSpec.ofChange changesOtherWrong)

/-- 'flonglaw07.ChangesRemedy': WHATEVER THE INPUT: true; the input reads as it did. -/
def changesRemedySpec : ChangeSpec := { name := "changesRemedy", fn := fun _ => fun
  | [d1, d2] => { results := [.lit (.bool true)], args := [d1, d2] }
  | _ => none }
def changesRemedyRow : OpenClaim := { program := "ytllmohmgakdbdaa", sum := "bd8f3eb6ab3ae1caab89346ddef1f91adaeded3f39b618a0c19cdc87945ed85c", func := "flong/flonglaw07.ChangesRemedy", spec := "changesRemedy", unfollowed := true, recurses := true, apart := false }
def ChangesRemedySaid : Prop := changesRemedyRow.holds Try.pinned (OpenSpec.ofChange changesRemedySpec)

/-- ITS FALSE NEIGHBOUR: 'it returns false'. Refute it at one input. -/
def changesRemedyWrong : ChangeSpec := { name := "changesRemedy", fn := fun _ => fun
  | [d1, d2] => { results := [.lit (.bool false)], args := [d1, d2] }
  | _ => none }
def ChangesRemedyWrongFalsely : Prop := changesRemedyRow.holds Try.pinned (OpenSpec.ofChange changesRemedyWrong)

/-- 'flonglaw07.ChangesMust': WHATEVER THE INPUT: true; the input reads as it did. -/
def changesMustSpec : ChangeSpec := { name := "changesMust", fn := fun _ => fun
  | [d1, d2, d3] => { results := [.lit (.bool true)], args := [d1, d2, d3] }
  | _ => none }
def changesMustRow : OpenClaim := { program := "ytllmohmgakdbdaa", sum := "bd8f3eb6ab3ae1caab89346ddef1f91adaeded3f39b618a0c19cdc87945ed85c", func := "flong/flonglaw07.ChangesMust", spec := "changesMust", unfollowed := true, recurses := true, apart := false }
def ChangesMustSaid : Prop := changesMustRow.holds Try.pinned (OpenSpec.ofChange changesMustSpec)

/-- ITS FALSE NEIGHBOUR: 'it returns false'. Refute it at one input. -/
def changesMustWrong : ChangeSpec := { name := "changesMust", fn := fun _ => fun
  | [d1, d2, d3] => { results := [.lit (.bool false)], args := [d1, d2, d3] }
  | _ => none }
def ChangesMustWrongFalsely : Prop := changesMustRow.holds Try.pinned (OpenSpec.ofChange changesMustWrong)

/- THE SECOND FORM. 'bulk': how many values and letters a reading holds, each counted each time it is reached (what is shared counts as often as it is met; a slice's spare places count too). A statement '..UptoSaid' is the law's where the arguments, and the package variables that the reading takes, are together of bulk at most 1048576: NARROWER than '..Said'. Prove '..Said' where nothing that the law and all that it calls make is longer than what came in: it says more and counts as full. Else prove '..UptoSaid'. A law counts once. -/
mutual
def uptoBulk {H : Type} : DataW H → Nat
  | .lit (.string bytes) => bytes.length + 1
  | .lit _ => 1
  | .nil => 1
  | .ptr d => uptoBulk d + 1
  | .slice elems spare => uptoBulkAll elems + uptoBulkAll spare + 1
  | .agg parts => uptoBulkAll parts + 1
  | .iface _ d => uptoBulk d + 1
  | .map entries => uptoBulkEntries entries + 1
  | .held _ => 1
def uptoBulkAll {H : Type} : List (DataW H) → Nat
  | [] => 0
  | d :: r => uptoBulk d + uptoBulkAll r
def uptoBulkEntries {H : Type} : List (Lit × DataW H) → Nat
  | [] => 0
  | x :: r => uptoBulkEntry x + uptoBulkEntries r
def uptoBulkEntry {H : Type} : Lit × DataW H → Nat
  | (.string bytes, d) => bytes.length + uptoBulk d + 1
  | (_, d) => uptoBulk d + 1
 end
def uptoSmall : (H : Type) → List (DataW H) → Bool := fun _ ds => decide (uptoBulkAll ds ≤ 1048576)
def OpenSpec.upto (s : _root_.Go.ChangeSpec) : _root_.Go.OpenSpec := { _root_.Go.OpenSpec.ofChange s with cond := some uptoSmall }

/-- 'flonglaw07.ChangesLeast', WHERE WHAT IT READS IS OF BULK AT MOST 1048576: true; the input reads as it did. -/
def changesLeastUptoRow : OpenClaim := { program := "ytllmohmgakdbdaa", sum := "bd8f3eb6ab3ae1caab89346ddef1f91adaeded3f39b618a0c19cdc87945ed85c", func := "flong/flonglaw07.ChangesLeast", spec := "changesLeast", unfollowed := true, recurses := true, apart := false, narrowed := true }
def ChangesLeastUptoSaid : Prop := changesLeastUptoRow.holds Try.pinned (OpenSpec.upto changesLeastSpec)

/-- 'flonglaw07.ChangesDearer', WHERE WHAT IT READS IS OF BULK AT MOST 1048576: true; the input reads as it did. -/
def changesDearerUptoRow : OpenClaim := { program := "ytllmohmgakdbdaa", sum := "bd8f3eb6ab3ae1caab89346ddef1f91adaeded3f39b618a0c19cdc87945ed85c", func := "flong/flonglaw07.ChangesDearer", spec := "changesDearer", unfollowed := true, recurses := true, apart := false, narrowed := true }
def ChangesDearerUptoSaid : Prop := changesDearerUptoRow.holds Try.pinned (OpenSpec.upto changesDearerSpec)

/-- 'flonglaw07.ChangesMixes', WHERE WHAT IT READS IS OF BULK AT MOST 1048576: true; the input reads as it did. -/
def changesMixesUptoRow : OpenClaim := { program := "ytllmohmgakdbdaa", sum := "bd8f3eb6ab3ae1caab89346ddef1f91adaeded3f39b618a0c19cdc87945ed85c", func := "flong/flonglaw07.ChangesMixes", spec := "changesMixes", unfollowed := true, recurses := true, apart := false, narrowed := true }
def ChangesMixesUptoSaid : Prop := changesMixesUptoRow.holds Try.pinned (OpenSpec.upto changesMixesSpec)

/-- 'flonglaw07.ChangesStays', WHERE WHAT IT READS IS OF BULK AT MOST 1048576: true; the input reads as it did. -/
def changesStaysUptoRow : OpenClaim := { program := "ytllmohmgakdbdaa", sum := "bd8f3eb6ab3ae1caab89346ddef1f91adaeded3f39b618a0c19cdc87945ed85c", func := "flong/flonglaw07.ChangesStays", spec := "changesStays", unfollowed := true, recurses := true, apart := false, narrowed := true }
def ChangesStaysUptoSaid : Prop := changesStaysUptoRow.holds Try.pinned (OpenSpec.upto changesStaysSpec)

/-- 'flonglaw07.ChangesLast', WHERE WHAT IT READS IS OF BULK AT MOST 1048576: true; the input reads as it did. -/
def changesLastUptoRow : OpenClaim := { program := "ytllmohmgakdbdaa", sum := "bd8f3eb6ab3ae1caab89346ddef1f91adaeded3f39b618a0c19cdc87945ed85c", func := "flong/flonglaw07.ChangesLast", spec := "changesLast", unfollowed := true, recurses := true, apart := false, narrowed := true }
def ChangesLastUptoSaid : Prop := changesLastUptoRow.holds Try.pinned (OpenSpec.upto changesLastSpec)

/-- 'flonglaw07.ChangesMixed', WHERE WHAT IT READS IS OF BULK AT MOST 1048576: true; the input reads as it did. -/
def changesMixedUptoRow : OpenClaim := { program := "ytllmohmgakdbdaa", sum := "bd8f3eb6ab3ae1caab89346ddef1f91adaeded3f39b618a0c19cdc87945ed85c", func := "flong/flonglaw07.ChangesMixed", spec := "changesMixed", unfollowed := true, recurses := true, apart := false, narrowed := true }
def ChangesMixedUptoSaid : Prop := changesMixedUptoRow.holds Try.pinned (OpenSpec.upto changesMixedSpec)

/-- 'flonglaw07.ChangesHas', WHERE WHAT IT READS IS OF BULK AT MOST 1048576: true; the input reads as it did. -/
def changesHasUptoRow : OpenClaim := { program := "ytllmohmgakdbdaa", sum := "bd8f3eb6ab3ae1caab89346ddef1f91adaeded3f39b618a0c19cdc87945ed85c", func := "flong/flonglaw07.ChangesHas", spec := "changesHas", unfollowed := true, recurses := true, apart := false, narrowed := true }
def ChangesHasUptoSaid : Prop := changesHasUptoRow.holds Try.pinned (OpenSpec.upto changesHasSpec)

/-- 'flonglaw07.ChangesFrom', WHERE WHAT IT READS IS OF BULK AT MOST 1048576: true; the input reads as it did. -/
def changesFromUptoRow : OpenClaim := { program := "ytllmohmgakdbdaa", sum := "bd8f3eb6ab3ae1caab89346ddef1f91adaeded3f39b618a0c19cdc87945ed85c", func := "flong/flonglaw07.ChangesFrom", spec := "changesFrom", unfollowed := true, recurses := true, apart := false, narrowed := true }
def ChangesFromUptoSaid : Prop := changesFromUptoRow.holds Try.pinned (OpenSpec.upto changesFromSpec)

/-- 'flonglaw07.ChangesAll', WHERE WHAT IT READS IS OF BULK AT MOST 1048576: true; the input reads as it did. -/
def changesAllUptoRow : OpenClaim := { program := "ytllmohmgakdbdaa", sum := "bd8f3eb6ab3ae1caab89346ddef1f91adaeded3f39b618a0c19cdc87945ed85c", func := "flong/flonglaw07.ChangesAll", spec := "changesAll", unfollowed := true, recurses := true, apart := false, narrowed := true }
def ChangesAllUptoSaid : Prop := changesAllUptoRow.holds Try.pinned (OpenSpec.upto changesAllSpec)

/-- 'flonglaw07.ChangesOther', WHERE WHAT IT READS IS OF BULK AT MOST 1048576: true; the input reads as it did. -/
def changesOtherUptoRow : OpenClaim := { program := "ytllmohmgakdbdaa", sum := "bd8f3eb6ab3ae1caab89346ddef1f91adaeded3f39b618a0c19cdc87945ed85c", func := "flong/flonglaw07.ChangesOther", spec := "changesOther", unfollowed := true, recurses := true, apart := false, narrowed := true }
def ChangesOtherUptoSaid : Prop := changesOtherUptoRow.holds Try.pinned (OpenSpec.upto changesOtherSpec)

/-- 'flonglaw07.ChangesRemedy', WHERE WHAT IT READS IS OF BULK AT MOST 1048576: true; the input reads as it did. -/
def changesRemedyUptoRow : OpenClaim := { program := "ytllmohmgakdbdaa", sum := "bd8f3eb6ab3ae1caab89346ddef1f91adaeded3f39b618a0c19cdc87945ed85c", func := "flong/flonglaw07.ChangesRemedy", spec := "changesRemedy", unfollowed := true, recurses := true, apart := false, narrowed := true }
def ChangesRemedyUptoSaid : Prop := changesRemedyUptoRow.holds Try.pinned (OpenSpec.upto changesRemedySpec)

/-- 'flonglaw07.ChangesMust', WHERE WHAT IT READS IS OF BULK AT MOST 1048576: true; the input reads as it did. -/
def changesMustUptoRow : OpenClaim := { program := "ytllmohmgakdbdaa", sum := "bd8f3eb6ab3ae1caab89346ddef1f91adaeded3f39b618a0c19cdc87945ed85c", func := "flong/flonglaw07.ChangesMust", spec := "changesMust", unfollowed := true, recurses := true, apart := false, narrowed := true }
def ChangesMustUptoSaid : Prop := changesMustUptoRow.holds Try.pinned (OpenSpec.upto changesMustSpec)

end Rows
end Go.Proofs.Ytllmohmgakdbdaa
