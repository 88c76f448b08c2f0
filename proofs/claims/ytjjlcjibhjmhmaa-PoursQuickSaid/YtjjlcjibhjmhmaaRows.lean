/-
  No cell of these rows narrows 'for every input' (looked for: loops, veiled, ifaces, maps, wideKeys, modest, calm, conditions, laid).
  DERIVED. THE GIVEN ROWS OF THIS SEAT. 13 by the template 'for every input the law returns true; each argument reads behind the call as it read before'; 0 by the template 'total and deterministic' (their statements: YtjjlcjibhjmhmaaTotals.lean).
  GIVEN WITH THE SEED: the statements are not yours to turn. If you find one false, say at which input.
  Laid BY PROGRAM, IN A SANDBOX (cutbox-rows.mjs): the forced cells as the released guide's own fill.sh prints them over the translation 18ccaead08ab5b23… (all of the seat's roots in one cut). By AI agents, Wed Nov 11 2026. No macro, syntax, notation, axiom, sorry.
-/
import Derived.Test.YtjjlcjibhjmhmaaChecked
import GoSem.Claim
import GoSem.ClaimJoined
import GoSem.ClaimMapViews
import Derived.JoinedTies
import Derived.KernelRfl
namespace Go.Proofs.Ytjjlcjibhjmhmaa
/- THE CELL 'sum', in the pinned program and in every row, IS THE sha256 OF THE DUMP (.gsa) THAT YtjjlcjibhjmhmaaProg.lean LOADS. Nothing in Lean hashes anything: it is a label: what it is worth is what the hold of that sum in a sandbox is worth. -/
noncomputable def Try.pinned : Pinned := { name := "ytjjlcjibhjmhmaa", sum := "18ccaead08ab5b23b4ce19d75db2d91f6eb7ebdd01d161fcea58b3f75fdd2049", checked := Try.checked }
namespace Rows
def none {H : Type} : Left H := { results := [], args := [] }

/-- 'flonglaw05.PoursMust': WHATEVER THE INPUT: true; the input reads as it did. -/
def poursMustSpec : ChangeSpec := { name := "poursMust", fn := fun _ => fun
  | [d1, d2] => { results := [.lit (.bool true)], args := [d1, d2] }
  | _ => none }
def poursMustRow : OpenClaim := { program := "ytjjlcjibhjmhmaa", sum := "18ccaead08ab5b23b4ce19d75db2d91f6eb7ebdd01d161fcea58b3f75fdd2049", func := "flong/flonglaw05.PoursMust", spec := "poursMust", unfollowed := true, recurses := true, apart := false }
def PoursMustSaid : Prop := poursMustRow.holds Try.pinned (OpenSpec.ofChange poursMustSpec)

/-- ITS FALSE NEIGHBOUR: 'it returns false'. Refute it at one input. -/
def poursMustWrong : ChangeSpec := { name := "poursMust", fn := fun _ => fun
  | [d1, d2] => { results := [.lit (.bool false)], args := [d1, d2] }
  | _ => none }
def PoursMustWrongFalsely : Prop := poursMustRow.holds Try.pinned (OpenSpec.ofChange poursMustWrong)

/-- 'flonglaw05.PoursWait': WHATEVER THE INPUT: true; the input reads as it did. -/
def poursWaitSpec : ChangeSpec := { name := "poursWait", fn := fun _ => fun
  | [d1, d2] => { results := [.lit (.bool true)], args := [d1, d2] }
  | _ => none }
def poursWaitRow : OpenClaim := { program := "ytjjlcjibhjmhmaa", sum := "18ccaead08ab5b23b4ce19d75db2d91f6eb7ebdd01d161fcea58b3f75fdd2049", func := "flong/flonglaw05.PoursWait", spec := "poursWait", unfollowed := true, recurses := true, apart := false }
def PoursWaitSaid : Prop := poursWaitRow.holds Try.pinned (OpenSpec.ofChange poursWaitSpec)

/-- ITS FALSE NEIGHBOUR: 'it returns false'. Refute it at one input. -/
def poursWaitWrong : ChangeSpec := { name := "poursWait", fn := fun _ => fun
  | [d1, d2] => { results := [.lit (.bool false)], args := [d1, d2] }
  | _ => none }
def PoursWaitWrongFalsely : Prop := poursWaitRow.holds Try.pinned (OpenSpec.ofChange poursWaitWrong)

/-- 'flonglaw05.PoursEach': WHATEVER THE INPUT: true; the input reads as it did. -/
def poursEachSpec : ChangeSpec := { name := "poursEach", fn := fun _ => fun
  | [d1, d2, d3] => { results := [.lit (.bool true)], args := [d1, d2, d3] }
  | _ => none }
def poursEachRow : OpenClaim := { program := "ytjjlcjibhjmhmaa", sum := "18ccaead08ab5b23b4ce19d75db2d91f6eb7ebdd01d161fcea58b3f75fdd2049", func := "flong/flonglaw05.PoursEach", spec := "poursEach", unfollowed := true, recurses := true, apart := false }
def PoursEachSaid : Prop := poursEachRow.holds Try.pinned (OpenSpec.ofChange poursEachSpec)

/-- ITS FALSE NEIGHBOUR: 'it returns false'. Refute it at one input. -/
def poursEachWrong : ChangeSpec := { name := "poursEach", fn := fun _ => fun
  | [d1, d2, d3] => { results := [.lit (.bool false)], args := [d1, d2, d3] }
  | _ => none }
def PoursEachWrongFalsely : Prop := poursEachRow.holds Try.pinned (OpenSpec.ofChange poursEachWrong)

/-- 'flonglaw05.PoursLeft': WHATEVER THE INPUT: true; the input reads as it did. -/
def poursLeftSpec : ChangeSpec := { name := "poursLeft", fn := fun _ => fun
  | [d1, d2, d3] => { results := [.lit (.bool true)], args := [d1, d2, d3] }
  | _ => none }
def poursLeftRow : OpenClaim := { program := "ytjjlcjibhjmhmaa", sum := "18ccaead08ab5b23b4ce19d75db2d91f6eb7ebdd01d161fcea58b3f75fdd2049", func := "flong/flonglaw05.PoursLeft", spec := "poursLeft", unfollowed := true, recurses := true, apart := false }
def PoursLeftSaid : Prop := poursLeftRow.holds Try.pinned (OpenSpec.ofChange poursLeftSpec)

/-- ITS FALSE NEIGHBOUR: 'it returns false'. Refute it at one input. -/
def poursLeftWrong : ChangeSpec := { name := "poursLeft", fn := fun _ => fun
  | [d1, d2, d3] => { results := [.lit (.bool false)], args := [d1, d2, d3] }
  | _ => none }
def PoursLeftWrongFalsely : Prop := poursLeftRow.holds Try.pinned (OpenSpec.ofChange poursLeftWrong)

/-- 'flonglaw05.PoursReady': WHATEVER THE INPUT: true; the input reads as it did. -/
def poursReadySpec : ChangeSpec := { name := "poursReady", fn := fun _ => fun
  | [d1, d2, d3] => { results := [.lit (.bool true)], args := [d1, d2, d3] }
  | _ => none }
def poursReadyRow : OpenClaim := { program := "ytjjlcjibhjmhmaa", sum := "18ccaead08ab5b23b4ce19d75db2d91f6eb7ebdd01d161fcea58b3f75fdd2049", func := "flong/flonglaw05.PoursReady", spec := "poursReady", unfollowed := true, recurses := true, apart := false }
def PoursReadySaid : Prop := poursReadyRow.holds Try.pinned (OpenSpec.ofChange poursReadySpec)

/-- ITS FALSE NEIGHBOUR: 'it returns false'. Refute it at one input. -/
def poursReadyWrong : ChangeSpec := { name := "poursReady", fn := fun _ => fun
  | [d1, d2, d3] => { results := [.lit (.bool false)], args := [d1, d2, d3] }
  | _ => none }
def PoursReadyWrongFalsely : Prop := poursReadyRow.holds Try.pinned (OpenSpec.ofChange poursReadyWrong)

/-- 'flonglaw05.PoursBest': WHATEVER THE INPUT: true; the input reads as it did. -/
def poursBestSpec : ChangeSpec := { name := "poursBest", fn := fun _ => fun
  | [d] => { results := [.lit (.bool true)], args := [d] }
  | _ => none }
def poursBestRow : OpenClaim := { program := "ytjjlcjibhjmhmaa", sum := "18ccaead08ab5b23b4ce19d75db2d91f6eb7ebdd01d161fcea58b3f75fdd2049", func := "flong/flonglaw05.PoursBest", spec := "poursBest", unfollowed := true, recurses := true, apart := false }
def PoursBestSaid : Prop := poursBestRow.holds Try.pinned (OpenSpec.ofChange poursBestSpec)

/-- ITS FALSE NEIGHBOUR: 'it returns false'. Refute it at one input. -/
def poursBestWrong : ChangeSpec := { name := "poursBest", fn := fun _ => fun
  | [d] => { results := [.lit (.bool false)], args := [d] }
  | _ => none }
def PoursBestWrongFalsely : Prop := poursBestRow.holds Try.pinned (OpenSpec.ofChange poursBestWrong)

/-- 'flonglaw05.PoursBounds': WHATEVER THE INPUT: true; the input reads as it did. -/
def poursBoundsSpec : ChangeSpec := { name := "poursBounds", fn := fun _ => fun
  | [d] => { results := [.lit (.bool true)], args := [d] }
  | _ => none }
def poursBoundsRow : OpenClaim := { program := "ytjjlcjibhjmhmaa", sum := "18ccaead08ab5b23b4ce19d75db2d91f6eb7ebdd01d161fcea58b3f75fdd2049", func := "flong/flonglaw05.PoursBounds", spec := "poursBounds", unfollowed := true, recurses := true, apart := false }
def PoursBoundsSaid : Prop := poursBoundsRow.holds Try.pinned (OpenSpec.ofChange poursBoundsSpec)

/-- ITS FALSE NEIGHBOUR: 'it returns false'. Refute it at one input. -/
def poursBoundsWrong : ChangeSpec := { name := "poursBounds", fn := fun _ => fun
  | [d] => { results := [.lit (.bool false)], args := [d] }
  | _ => none }
def PoursBoundsWrongFalsely : Prop := poursBoundsRow.holds Try.pinned (OpenSpec.ofChange poursBoundsWrong)

/-- 'flonglaw05.PoursBetter': WHATEVER THE INPUT: true; the input reads as it did. -/
def poursBetterSpec : ChangeSpec := { name := "poursBetter", fn := fun _ => fun
  | [d1, d2, d3] => { results := [.lit (.bool true)], args := [d1, d2, d3] }
  | _ => none }
def poursBetterRow : OpenClaim := { program := "ytjjlcjibhjmhmaa", sum := "18ccaead08ab5b23b4ce19d75db2d91f6eb7ebdd01d161fcea58b3f75fdd2049", func := "flong/flonglaw05.PoursBetter", spec := "poursBetter", unfollowed := true, recurses := true, apart := false }
def PoursBetterSaid : Prop := poursBetterRow.holds Try.pinned (OpenSpec.ofChange poursBetterSpec)

/-- ITS FALSE NEIGHBOUR: 'it returns false'. Refute it at one input. -/
def poursBetterWrong : ChangeSpec := { name := "poursBetter", fn := fun _ => fun
  | [d1, d2, d3] => { results := [.lit (.bool false)], args := [d1, d2, d3] }
  | _ => none }
def PoursBetterWrongFalsely : Prop := poursBetterRow.holds Try.pinned (OpenSpec.ofChange poursBetterWrong)

/-- 'flonglaw05.PoursTurned': WHATEVER THE INPUT: true; the input reads as it did. -/
def poursTurnedSpec : ChangeSpec := { name := "poursTurned", fn := fun _ => fun
  | [d] => { results := [.lit (.bool true)], args := [d] }
  | _ => none }
def poursTurnedRow : OpenClaim := { program := "ytjjlcjibhjmhmaa", sum := "18ccaead08ab5b23b4ce19d75db2d91f6eb7ebdd01d161fcea58b3f75fdd2049", func := "flong/flonglaw05.PoursTurned", spec := "poursTurned", unfollowed := true, recurses := true, apart := false }
def PoursTurnedSaid : Prop := poursTurnedRow.holds Try.pinned (OpenSpec.ofChange poursTurnedSpec)

/-- ITS FALSE NEIGHBOUR: 'it returns false'. Refute it at one input. -/
def poursTurnedWrong : ChangeSpec := { name := "poursTurned", fn := fun _ => fun
  | [d] => { results := [.lit (.bool false)], args := [d] }
  | _ => none }
def PoursTurnedWrongFalsely : Prop := poursTurnedRow.holds Try.pinned (OpenSpec.ofChange poursTurnedWrong)

/-- 'flonglaw05.PoursQuick': WHATEVER THE INPUT: true; the input reads as it did. -/
def poursQuickSpec : ChangeSpec := { name := "poursQuick", fn := fun _ => fun
  | [d] => { results := [.lit (.bool true)], args := [d] }
  | _ => none }
def poursQuickRow : OpenClaim := { program := "ytjjlcjibhjmhmaa", sum := "18ccaead08ab5b23b4ce19d75db2d91f6eb7ebdd01d161fcea58b3f75fdd2049", func := "flong/flonglaw05.PoursQuick", spec := "poursQuick", unfollowed := true, recurses := true, apart := false }
def PoursQuickSaid : Prop := poursQuickRow.holds Try.pinned (OpenSpec.ofChange poursQuickSpec)

/-- ITS FALSE NEIGHBOUR: 'it returns false'. Refute it at one input. -/
def poursQuickWrong : ChangeSpec := { name := "poursQuick", fn := fun _ => fun
  | [d] => { results := [.lit (.bool false)], args := [d] }
  | _ => none }
def PoursQuickWrongFalsely : Prop := poursQuickRow.holds Try.pinned (OpenSpec.ofChange poursQuickWrong)

/-- 'flonglaw05.PoursRule': WHATEVER THE INPUT: true; the input reads as it did. -/
def poursRuleSpec : ChangeSpec := { name := "poursRule", fn := fun _ => fun
  | [d1, d2] => { results := [.lit (.bool true)], args := [d1, d2] }
  | _ => none }
def poursRuleRow : OpenClaim := { program := "ytjjlcjibhjmhmaa", sum := "18ccaead08ab5b23b4ce19d75db2d91f6eb7ebdd01d161fcea58b3f75fdd2049", func := "flong/flonglaw05.PoursRule", spec := "poursRule", unfollowed := true, recurses := true, apart := false }
def PoursRuleSaid : Prop := poursRuleRow.holds Try.pinned (OpenSpec.ofChange poursRuleSpec)

/-- ITS FALSE NEIGHBOUR: 'it returns false'. Refute it at one input. -/
def poursRuleWrong : ChangeSpec := { name := "poursRule", fn := fun _ => fun
  | [d1, d2] => { results := [.lit (.bool false)], args := [d1, d2] }
  | _ => none }
def PoursRuleWrongFalsely : Prop := poursRuleRow.holds Try.pinned (OpenSpec.ofChange poursRuleWrong)

/-- 'flonglaw05.PoursOrder': WHATEVER THE INPUT: true; the input reads as it did. -/
def poursOrderSpec : ChangeSpec := { name := "poursOrder", fn := fun _ => fun
  | [d1, d2] => { results := [.lit (.bool true)], args := [d1, d2] }
  | _ => none }
def poursOrderRow : OpenClaim := { program := "ytjjlcjibhjmhmaa", sum := "18ccaead08ab5b23b4ce19d75db2d91f6eb7ebdd01d161fcea58b3f75fdd2049", func := "flong/flonglaw05.PoursOrder", spec := "poursOrder", unfollowed := true, recurses := true, apart := false }
def PoursOrderSaid : Prop := poursOrderRow.holds Try.pinned (OpenSpec.ofChange poursOrderSpec)

/-- ITS FALSE NEIGHBOUR: 'it returns false'. Refute it at one input. -/
def poursOrderWrong : ChangeSpec := { name := "poursOrder", fn := fun _ => fun
  | [d1, d2] => { results := [.lit (.bool false)], args := [d1, d2] }
  | _ => none }
def PoursOrderWrongFalsely : Prop := poursOrderRow.holds Try.pinned (OpenSpec.ofChange poursOrderWrong)

/-- 'flonglaw05.PoursNumbers': WHATEVER THE INPUT: true; the input reads as it did. -/
def poursNumbersSpec : ChangeSpec := { name := "poursNumbers", fn := fun _ => fun
  | [d1, d2] => { results := [.lit (.bool true)], args := [d1, d2] }
  | _ => none }
def poursNumbersRow : OpenClaim := { program := "ytjjlcjibhjmhmaa", sum := "18ccaead08ab5b23b4ce19d75db2d91f6eb7ebdd01d161fcea58b3f75fdd2049", func := "flong/flonglaw05.PoursNumbers", spec := "poursNumbers", unfollowed := true, recurses := true, apart := false }
def PoursNumbersSaid : Prop := poursNumbersRow.holds Try.pinned (OpenSpec.ofChange poursNumbersSpec)

/-- ITS FALSE NEIGHBOUR: 'it returns false'. Refute it at one input. -/
def poursNumbersWrong : ChangeSpec := { name := "poursNumbers", fn := fun _ => fun
  | [d1, d2] => { results := [.lit (.bool false)], args := [d1, d2] }
  | _ => none }
def PoursNumbersWrongFalsely : Prop := poursNumbersRow.holds Try.pinned (OpenSpec.ofChange poursNumbersWrong)

/- THE SECOND FORM. 'bulk': how many values and letters a reading holds, each counted each time it is reached (what is shared counts as often as it is met; a slice's spare places count too). A statement '..UptoSaid' is the law's where the arguments, and the package variables that the reading takes, are together of bulk at most 1048576: NARROWER than '..Said'. Prove '..Said' where nothing that the law and all that it calls make is longer than what came in: it says more and counts as full. Else prove '..UptoSaid'. A law counts once. -/
mutual
def uptoBulk {H : Type} : DataW H → Nat
  | .lit (.string bytes) => bytes.length + 1
  | .lit _ => 1
  | .nil => 1
  | .ptr d => uptoBulk d + 1
  | .slice elems spare => uptoBulkAll elems + uptoBulkAll spare + 1
  | .agg parts => uptoBulkAll parts + 1
  | .iface _ d => uptoBulk d + 1
  | .map entries => uptoBulkEntries entries + 1
  | .held _ => 1
def uptoBulkAll {H : Type} : List (DataW H) → Nat
  | [] => 0
  | d :: r => uptoBulk d + uptoBulkAll r
def uptoBulkEntries {H : Type} : List (Lit × DataW H) → Nat
  | [] => 0
  | x :: r => uptoBulkEntry x + uptoBulkEntries r
def uptoBulkEntry {H : Type} : Lit × DataW H → Nat
  | (.string bytes, d) => bytes.length + uptoBulk d + 1
  | (_, d) => uptoBulk d + 1
 end
def uptoSmall : (H : Type) → List (DataW H) → Bool := fun _ ds => decide (uptoBulkAll ds ≤ 1048576)
def OpenSpec.upto (s : _root_.Go.ChangeSpec) : _root_.Go.OpenSpec := { _root_.Go.OpenSpec.ofChange s with cond := some uptoSmall }

/-- 'flonglaw05.PoursMust', WHERE WHAT IT READS IS OF BULK AT MOST 1048576: true; the input reads as it did. -/
def poursMustUptoRow : OpenClaim := { program := "ytjjlcjibhjmhmaa", sum := "18ccaead08ab5b23b4ce19d75db2d91f6eb7ebdd01d161fcea58b3f75fdd2049", func := "flong/flonglaw05.PoursMust", spec := "poursMust", unfollowed := true, recurses := true, apart := false, narrowed := true }
def PoursMustUptoSaid : Prop := poursMustUptoRow.holds Try.pinned (OpenSpec.upto poursMustSpec)

/-- 'flonglaw05.PoursWait', WHERE WHAT IT READS IS OF BULK AT MOST 1048576: true; the input reads as it did. -/
def poursWaitUptoRow : OpenClaim := { program := "ytjjlcjibhjmhmaa", sum := "18ccaead08ab5b23b4ce19d75db2d91f6eb7ebdd01d161fcea58b3f75fdd2049", func := "flong/flonglaw05.PoursWait", spec := "poursWait", unfollowed := true, recurses := true, apart := false, narrowed := true }
def PoursWaitUptoSaid : Prop := poursWaitUptoRow.holds Try.pinned (OpenSpec.upto poursWaitSpec)

/-- 'flonglaw05.PoursEach', WHERE WHAT IT READS IS OF BULK AT MOST 1048576: true; the input reads as it did. -/
def poursEachUptoRow : OpenClaim := { program := "ytjjlcjibhjmhmaa", sum := "18ccaead08ab5b23b4ce19d75db2d91f6eb7ebdd01d161fcea58b3f75fdd2049", func := "flong/flonglaw05.PoursEach", spec := "poursEach", unfollowed := true, recurses := true, apart := false, narrowed := true }
def PoursEachUptoSaid : Prop := poursEachUptoRow.holds Try.pinned (OpenSpec.upto poursEachSpec)

/-- 'flonglaw05.PoursLeft', WHERE WHAT IT READS IS OF BULK AT MOST 1048576: true; the input reads as it did. -/
def poursLeftUptoRow : OpenClaim := { program := "ytjjlcjibhjmhmaa", sum := "18ccaead08ab5b23b4ce19d75db2d91f6eb7ebdd01d161fcea58b3f75fdd2049", func := "flong/flonglaw05.PoursLeft", spec := "poursLeft", unfollowed := true, recurses := true, apart := false, narrowed := true }
def PoursLeftUptoSaid : Prop := poursLeftUptoRow.holds Try.pinned (OpenSpec.upto poursLeftSpec)

/-- 'flonglaw05.PoursReady', WHERE WHAT IT READS IS OF BULK AT MOST 1048576: true; the input reads as it did. -/
def poursReadyUptoRow : OpenClaim := { program := "ytjjlcjibhjmhmaa", sum := "18ccaead08ab5b23b4ce19d75db2d91f6eb7ebdd01d161fcea58b3f75fdd2049", func := "flong/flonglaw05.PoursReady", spec := "poursReady", unfollowed := true, recurses := true, apart := false, narrowed := true }
def PoursReadyUptoSaid : Prop := poursReadyUptoRow.holds Try.pinned (OpenSpec.upto poursReadySpec)

/-- 'flonglaw05.PoursBest', WHERE WHAT IT READS IS OF BULK AT MOST 1048576: true; the input reads as it did. -/
def poursBestUptoRow : OpenClaim := { program := "ytjjlcjibhjmhmaa", sum := "18ccaead08ab5b23b4ce19d75db2d91f6eb7ebdd01d161fcea58b3f75fdd2049", func := "flong/flonglaw05.PoursBest", spec := "poursBest", unfollowed := true, recurses := true, apart := false, narrowed := true }
def PoursBestUptoSaid : Prop := poursBestUptoRow.holds Try.pinned (OpenSpec.upto poursBestSpec)

/-- 'flonglaw05.PoursBounds', WHERE WHAT IT READS IS OF BULK AT MOST 1048576: true; the input reads as it did. -/
def poursBoundsUptoRow : OpenClaim := { program := "ytjjlcjibhjmhmaa", sum := "18ccaead08ab5b23b4ce19d75db2d91f6eb7ebdd01d161fcea58b3f75fdd2049", func := "flong/flonglaw05.PoursBounds", spec := "poursBounds", unfollowed := true, recurses := true, apart := false, narrowed := true }
def PoursBoundsUptoSaid : Prop := poursBoundsUptoRow.holds Try.pinned (OpenSpec.upto poursBoundsSpec)

/-- 'flonglaw05.PoursBetter', WHERE WHAT IT READS IS OF BULK AT MOST 1048576: true; the input reads as it did. -/
def poursBetterUptoRow : OpenClaim := { program := "ytjjlcjibhjmhmaa", sum := "18ccaead08ab5b23b4ce19d75db2d91f6eb7ebdd01d161fcea58b3f75fdd2049", func := "flong/flonglaw05.PoursBetter", spec := "poursBetter", unfollowed := true, recurses := true, apart := false, narrowed := true }
def PoursBetterUptoSaid : Prop := poursBetterUptoRow.holds Try.pinned (OpenSpec.upto poursBetterSpec)

/-- 'flonglaw05.PoursTurned', WHERE WHAT IT READS IS OF BULK AT MOST 1048576: true; the input reads as it did. -/
def poursTurnedUptoRow : OpenClaim := { program := "ytjjlcjibhjmhmaa", sum := "18ccaead08ab5b23b4ce19d75db2d91f6eb7ebdd01d161fcea58b3f75fdd2049", func := "flong/flonglaw05.PoursTurned", spec := "poursTurned", unfollowed := true, recurses := true, apart := false, narrowed := true }
def PoursTurnedUptoSaid : Prop := poursTurnedUptoRow.holds Try.pinned (OpenSpec.upto poursTurnedSpec)

/-- 'flonglaw05.PoursQuick', WHERE WHAT IT READS IS OF BULK AT MOST 1048576: true; the input reads as it did. -/
def poursQuickUptoRow : OpenClaim := { program := "ytjjlcjibhjmhmaa", sum := "18ccaead08ab5b23b4ce19d75db2d91f6eb7ebdd01d161fcea58b3f75fdd2049", func := "flong/flonglaw05.PoursQuick", spec := "poursQuick", unfollowed := true, recurses := true, apart := false, narrowed := true }
def PoursQuickUptoSaid : Prop := poursQuickUptoRow.holds Try.pinned (OpenSpec.upto poursQuickSpec)

/-- 'flonglaw05.PoursRule', WHERE WHAT IT READS IS OF BULK AT MOST 1048576: true; the input reads as it did. -/
def poursRuleUptoRow : OpenClaim := { program := "ytjjlcjibhjmhmaa", sum := "18ccaead08ab5b23b4ce19d75db2d91f6eb7ebdd01d161fcea58b3f75fdd2049", func := "flong/flonglaw05.PoursRule", spec := "poursRule", unfollowed := true, recurses := true, apart := false, narrowed := true }
def PoursRuleUptoSaid : Prop := poursRuleUptoRow.holds Try.pinned (OpenSpec.upto poursRuleSpec)

/-- 'flonglaw05.PoursOrder', WHERE WHAT IT READS IS OF BULK AT MOST 1048576: true; the input reads as it did. -/
def poursOrderUptoRow : OpenClaim := { program := "ytjjlcjibhjmhmaa", sum := "18ccaead08ab5b23b4ce19d75db2d91f6eb7ebdd01d161fcea58b3f75fdd2049", func := "flong/flonglaw05.PoursOrder", spec := "poursOrder", unfollowed := true, recurses := true, apart := false, narrowed := true }
def PoursOrderUptoSaid : Prop := poursOrderUptoRow.holds Try.pinned (OpenSpec.upto poursOrderSpec)

/-- 'flonglaw05.PoursNumbers', WHERE WHAT IT READS IS OF BULK AT MOST 1048576: true; the input reads as it did. -/
def poursNumbersUptoRow : OpenClaim := { program := "ytjjlcjibhjmhmaa", sum := "18ccaead08ab5b23b4ce19d75db2d91f6eb7ebdd01d161fcea58b3f75fdd2049", func := "flong/flonglaw05.PoursNumbers", spec := "poursNumbers", unfollowed := true, recurses := true, apart := false, narrowed := true }
def PoursNumbersUptoSaid : Prop := poursNumbersUptoRow.holds Try.pinned (OpenSpec.upto poursNumbersSpec)

end Rows
end Go.Proofs.Ytjjlcjibhjmhmaa
