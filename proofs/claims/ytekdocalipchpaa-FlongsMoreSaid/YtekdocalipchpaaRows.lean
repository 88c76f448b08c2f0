/-
  No cell of these rows narrows 'for every input' (looked for: loops, veiled, ifaces, maps, wideKeys, modest, calm, conditions, laid).
  DERIVED. THE GIVEN ROWS OF THIS SEAT. 12 by the template 'for every input the law returns true; each argument reads behind the call as it read before'; 0 by the template 'total and deterministic' (their statements: YtekdocalipchpaaTotals.lean).
  GIVEN WITH THE SEED: the statements are not yours to turn. If you find one false, say at which input.
  Laid BY PROGRAM, IN A SANDBOX (cutbox-rows.mjs): the forced cells as the released guide's own fill.sh prints them over the translation 8e5b50ec416364ed… (all of the seat's roots in one cut). By AI agents, Wed Nov 11 2026. No macro, syntax, notation, axiom, sorry.
-/
import Derived.Test.YtekdocalipchpaaChecked
import GoSem.Claim
import GoSem.ClaimJoined
import GoSem.ClaimMapViews
import Derived.JoinedTies
import Derived.KernelRfl
namespace Go.Proofs.Ytekdocalipchpaa
/- THE CELL 'sum', in the pinned program and in every row, IS THE sha256 OF THE DUMP (.gsa) THAT YtekdocalipchpaaProg.lean LOADS. Nothing in Lean hashes anything: it is a label: what it is worth is what the hold of that sum in a sandbox is worth. -/
noncomputable def Try.pinned : Pinned := { name := "ytekdocalipchpaa", sum := "8e5b50ec416364ed29ed96e767bb6dbf2e72d732b4c4d3321f3b3283b86a331f", checked := Try.checked }
namespace Rows
def none {H : Type} : Left H := { results := [], args := [] }

/-- 'flonglaw02.FlongsFewer': WHATEVER THE INPUT: true; the input reads as it did. -/
def flongsFewerSpec : ChangeSpec := { name := "flongsFewer", fn := fun _ => fun
  | [d1, d2, d3] => { results := [.lit (.bool true)], args := [d1, d2, d3] }
  | _ => none }
def flongsFewerRow : OpenClaim := { program := "ytekdocalipchpaa", sum := "8e5b50ec416364ed29ed96e767bb6dbf2e72d732b4c4d3321f3b3283b86a331f", func := "flong/flonglaw02.FlongsFewer", spec := "flongsFewer", unfollowed := true, recurses := true, apart := false }
def FlongsFewerSaid : Prop := flongsFewerRow.holds Try.pinned (OpenSpec.ofChange flongsFewerSpec)

/-- ITS FALSE NEIGHBOUR: 'it returns false'. Refute it at one input. -/
def flongsFewerWrong : ChangeSpec := { name := "flongsFewer", fn := fun _ => fun
  | [d1, d2, d3] => { results := [.lit (.bool false)], args := [d1, d2, d3] }
  | _ => none }
def FlongsFewerWrongFalsely : Prop := flongsFewerRow.holds Try.pinned (OpenSpec.ofChange flongsFewerWrong)

/-- 'flonglaw02.FlongsShares': WHATEVER THE INPUT: true; the input reads as it did. -/
def flongsSharesSpec : ChangeSpec := { name := "flongsShares", fn := fun _ => fun
  | [d1, d2] => { results := [.lit (.bool true)], args := [d1, d2] }
  | _ => none }
def flongsSharesRow : OpenClaim := { program := "ytekdocalipchpaa", sum := "8e5b50ec416364ed29ed96e767bb6dbf2e72d732b4c4d3321f3b3283b86a331f", func := "flong/flonglaw02.FlongsShares", spec := "flongsShares", unfollowed := true, recurses := true, apart := false }
def FlongsSharesSaid : Prop := flongsSharesRow.holds Try.pinned (OpenSpec.ofChange flongsSharesSpec)

/-- ITS FALSE NEIGHBOUR: 'it returns false'. Refute it at one input. -/
def flongsSharesWrong : ChangeSpec := { name := "flongsShares", fn := fun _ => fun
  | [d1, d2] => { results := [.lit (.bool false)], args := [d1, d2] }
  | _ => none }
def FlongsSharesWrongFalsely : Prop := flongsSharesRow.holds Try.pinned (OpenSpec.ofChange flongsSharesWrong)

/-- 'flonglaw02.FlongsMore': WHATEVER THE INPUT: true; the input reads as it did. -/
def flongsMoreSpec : ChangeSpec := { name := "flongsMore", fn := fun _ => fun
  | [d1, d2, d3] => { results := [.lit (.bool true)], args := [d1, d2, d3] }
  | _ => none }
def flongsMoreRow : OpenClaim := { program := "ytekdocalipchpaa", sum := "8e5b50ec416364ed29ed96e767bb6dbf2e72d732b4c4d3321f3b3283b86a331f", func := "flong/flonglaw02.FlongsMore", spec := "flongsMore", unfollowed := true, recurses := true, apart := false }
def FlongsMoreSaid : Prop := flongsMoreRow.holds Try.pinned (OpenSpec.ofChange flongsMoreSpec)

/-- ITS FALSE NEIGHBOUR: 'it returns false'. Refute it at one input. -/
def flongsMoreWrong : ChangeSpec := { name := "flongsMore", fn := fun _ => fun
  | [d1, d2, d3] => { results := [.lit (.bool false)], args := [d1, d2, d3] }
  | _ => none }
def FlongsMoreWrongFalsely : Prop := flongsMoreRow.holds Try.pinned (OpenSpec.ofChange flongsMoreWrong)

/-- 'flonglaw02.FlongsLeft': WHATEVER THE INPUT: true; the input reads as it did. -/
def flongsLeftSpec : ChangeSpec := { name := "flongsLeft", fn := fun _ => fun
  | [d1, d2, d3] => { results := [.lit (.bool true)], args := [d1, d2, d3] }
  | _ => none }
def flongsLeftRow : OpenClaim := { program := "ytekdocalipchpaa", sum := "8e5b50ec416364ed29ed96e767bb6dbf2e72d732b4c4d3321f3b3283b86a331f", func := "flong/flonglaw02.FlongsLeft", spec := "flongsLeft", unfollowed := true, recurses := true, apart := false }
def FlongsLeftSaid : Prop := flongsLeftRow.holds Try.pinned (OpenSpec.ofChange flongsLeftSpec)

/-- ITS FALSE NEIGHBOUR: 'it returns false'. Refute it at one input. -/
def flongsLeftWrong : ChangeSpec := { name := "flongsLeft", fn := fun _ => fun
  | [d1, d2, d3] => { results := [.lit (.bool false)], args := [d1, d2, d3] }
  | _ => none }
def FlongsLeftWrongFalsely : Prop := flongsLeftRow.holds Try.pinned (OpenSpec.ofChange flongsLeftWrong)

/-- 'flonglaw02.FlongsCast': WHATEVER THE INPUT: true; the input reads as it did. -/
def flongsCastSpec : ChangeSpec := { name := "flongsCast", fn := fun _ => fun
  | [d1, d2] => { results := [.lit (.bool true)], args := [d1, d2] }
  | _ => none }
def flongsCastRow : OpenClaim := { program := "ytekdocalipchpaa", sum := "8e5b50ec416364ed29ed96e767bb6dbf2e72d732b4c4d3321f3b3283b86a331f", func := "flong/flonglaw02.FlongsCast", spec := "flongsCast", unfollowed := true, recurses := true, apart := false }
def FlongsCastSaid : Prop := flongsCastRow.holds Try.pinned (OpenSpec.ofChange flongsCastSpec)

/-- ITS FALSE NEIGHBOUR: 'it returns false'. Refute it at one input. -/
def flongsCastWrong : ChangeSpec := { name := "flongsCast", fn := fun _ => fun
  | [d1, d2] => { results := [.lit (.bool false)], args := [d1, d2] }
  | _ => none }
def FlongsCastWrongFalsely : Prop := flongsCastRow.holds Try.pinned (OpenSpec.ofChange flongsCastWrong)

/-- 'flonglaw02.FlongsChance': WHATEVER THE INPUT: true; the input reads as it did. -/
def flongsChanceSpec : ChangeSpec := { name := "flongsChance", fn := fun _ => fun
  | [d1, d2, d3] => { results := [.lit (.bool true)], args := [d1, d2, d3] }
  | _ => none }
def flongsChanceRow : OpenClaim := { program := "ytekdocalipchpaa", sum := "8e5b50ec416364ed29ed96e767bb6dbf2e72d732b4c4d3321f3b3283b86a331f", func := "flong/flonglaw02.FlongsChance", spec := "flongsChance", unfollowed := true, recurses := true, apart := false }
def FlongsChanceSaid : Prop := flongsChanceRow.holds Try.pinned (OpenSpec.ofChange flongsChanceSpec)

/-- ITS FALSE NEIGHBOUR: 'it returns false'. Refute it at one input. -/
def flongsChanceWrong : ChangeSpec := { name := "flongsChance", fn := fun _ => fun
  | [d1, d2, d3] => { results := [.lit (.bool false)], args := [d1, d2, d3] }
  | _ => none }
def FlongsChanceWrongFalsely : Prop := flongsChanceRow.holds Try.pinned (OpenSpec.ofChange flongsChanceWrong)

/-- 'flonglaw02.FlongsOrder': WHATEVER THE INPUT: true; the input reads as it did. -/
def flongsOrderSpec : ChangeSpec := { name := "flongsOrder", fn := fun _ => fun
  | [d1, d2, d3] => { results := [.lit (.bool true)], args := [d1, d2, d3] }
  | _ => none }
def flongsOrderRow : OpenClaim := { program := "ytekdocalipchpaa", sum := "8e5b50ec416364ed29ed96e767bb6dbf2e72d732b4c4d3321f3b3283b86a331f", func := "flong/flonglaw02.FlongsOrder", spec := "flongsOrder", unfollowed := true, recurses := true, apart := false }
def FlongsOrderSaid : Prop := flongsOrderRow.holds Try.pinned (OpenSpec.ofChange flongsOrderSpec)

/-- ITS FALSE NEIGHBOUR: 'it returns false'. Refute it at one input. -/
def flongsOrderWrong : ChangeSpec := { name := "flongsOrder", fn := fun _ => fun
  | [d1, d2, d3] => { results := [.lit (.bool false)], args := [d1, d2, d3] }
  | _ => none }
def FlongsOrderWrongFalsely : Prop := flongsOrderRow.holds Try.pinned (OpenSpec.ofChange flongsOrderWrong)

/-- 'flonglaw02.FlongsDivide': WHATEVER THE INPUT: true; the input reads as it did. -/
def flongsDivideSpec : ChangeSpec := { name := "flongsDivide", fn := fun _ => fun
  | [d] => { results := [.lit (.bool true)], args := [d] }
  | _ => none }
def flongsDivideRow : OpenClaim := { program := "ytekdocalipchpaa", sum := "8e5b50ec416364ed29ed96e767bb6dbf2e72d732b4c4d3321f3b3283b86a331f", func := "flong/flonglaw02.FlongsDivide", spec := "flongsDivide", unfollowed := true, recurses := true, apart := false }
def FlongsDivideSaid : Prop := flongsDivideRow.holds Try.pinned (OpenSpec.ofChange flongsDivideSpec)

/-- ITS FALSE NEIGHBOUR: 'it returns false'. Refute it at one input. -/
def flongsDivideWrong : ChangeSpec := { name := "flongsDivide", fn := fun _ => fun
  | [d] => { results := [.lit (.bool false)], args := [d] }
  | _ => none }
def FlongsDivideWrongFalsely : Prop := flongsDivideRow.holds Try.pinned (OpenSpec.ofChange flongsDivideWrong)

/-- 'flonglaw02.FlongsAgrees': WHATEVER THE INPUT: true; the input reads as it did. -/
def flongsAgreesSpec : ChangeSpec := { name := "flongsAgrees", fn := fun _ => fun
  | [d1, d2, d3] => { results := [.lit (.bool true)], args := [d1, d2, d3] }
  | _ => none }
def flongsAgreesRow : OpenClaim := { program := "ytekdocalipchpaa", sum := "8e5b50ec416364ed29ed96e767bb6dbf2e72d732b4c4d3321f3b3283b86a331f", func := "flong/flonglaw02.FlongsAgrees", spec := "flongsAgrees", unfollowed := true, recurses := true, apart := false }
def FlongsAgreesSaid : Prop := flongsAgreesRow.holds Try.pinned (OpenSpec.ofChange flongsAgreesSpec)

/-- ITS FALSE NEIGHBOUR: 'it returns false'. Refute it at one input. -/
def flongsAgreesWrong : ChangeSpec := { name := "flongsAgrees", fn := fun _ => fun
  | [d1, d2, d3] => { results := [.lit (.bool false)], args := [d1, d2, d3] }
  | _ => none }
def FlongsAgreesWrongFalsely : Prop := flongsAgreesRow.holds Try.pinned (OpenSpec.ofChange flongsAgreesWrong)

/-- 'flonglaw02.FlongsHolds': WHATEVER THE INPUT: true; the input reads as it did. -/
def flongsHoldsSpec : ChangeSpec := { name := "flongsHolds", fn := fun _ => fun
  | [d1, d2] => { results := [.lit (.bool true)], args := [d1, d2] }
  | _ => none }
def flongsHoldsRow : OpenClaim := { program := "ytekdocalipchpaa", sum := "8e5b50ec416364ed29ed96e767bb6dbf2e72d732b4c4d3321f3b3283b86a331f", func := "flong/flonglaw02.FlongsHolds", spec := "flongsHolds", unfollowed := true, recurses := true, apart := false }
def FlongsHoldsSaid : Prop := flongsHoldsRow.holds Try.pinned (OpenSpec.ofChange flongsHoldsSpec)

/-- ITS FALSE NEIGHBOUR: 'it returns false'. Refute it at one input. -/
def flongsHoldsWrong : ChangeSpec := { name := "flongsHolds", fn := fun _ => fun
  | [d1, d2] => { results := [.lit (.bool false)], args := [d1, d2] }
  | _ => none }
def FlongsHoldsWrongFalsely : Prop := flongsHoldsRow.holds Try.pinned (OpenSpec.ofChange flongsHoldsWrong)

/-- 'flonglaw02.FlongsTest': WHATEVER THE INPUT: true; the input reads as it did. -/
def flongsTestSpec : ChangeSpec := { name := "flongsTest", fn := fun _ => fun
  | [d1, d2] => { results := [.lit (.bool true)], args := [d1, d2] }
  | _ => none }
def flongsTestRow : OpenClaim := { program := "ytekdocalipchpaa", sum := "8e5b50ec416364ed29ed96e767bb6dbf2e72d732b4c4d3321f3b3283b86a331f", func := "flong/flonglaw02.FlongsTest", spec := "flongsTest", unfollowed := true, recurses := true, apart := false }
def FlongsTestSaid : Prop := flongsTestRow.holds Try.pinned (OpenSpec.ofChange flongsTestSpec)

/-- ITS FALSE NEIGHBOUR: 'it returns false'. Refute it at one input. -/
def flongsTestWrong : ChangeSpec := { name := "flongsTest", fn := fun _ => fun
  | [d1, d2] => { results := [.lit (.bool false)], args := [d1, d2] }
  | _ => none }
def FlongsTestWrongFalsely : Prop := flongsTestRow.holds Try.pinned (OpenSpec.ofChange flongsTestWrong)

/-- 'flonglaw02.FlongsEach': WHATEVER THE INPUT: true; the input reads as it did. -/
def flongsEachSpec : ChangeSpec := { name := "flongsEach", fn := fun _ => fun
  | [d1, d2, d3] => { results := [.lit (.bool true)], args := [d1, d2, d3] }
  | _ => none }
def flongsEachRow : OpenClaim := { program := "ytekdocalipchpaa", sum := "8e5b50ec416364ed29ed96e767bb6dbf2e72d732b4c4d3321f3b3283b86a331f", func := "flong/flonglaw02.FlongsEach", spec := "flongsEach", unfollowed := true, recurses := true, apart := false }
def FlongsEachSaid : Prop := flongsEachRow.holds Try.pinned (OpenSpec.ofChange flongsEachSpec)

/-- ITS FALSE NEIGHBOUR: 'it returns false'. Refute it at one input. -/
def flongsEachWrong : ChangeSpec := { name := "flongsEach", fn := fun _ => fun
  | [d1, d2, d3] => { results := [.lit (.bool false)], args := [d1, d2, d3] }
  | _ => none }
def FlongsEachWrongFalsely : Prop := flongsEachRow.holds Try.pinned (OpenSpec.ofChange flongsEachWrong)

/- THE SECOND FORM. 'bulk': how many values and letters a reading holds, each counted each time it is reached (what is shared counts as often as it is met; a slice's spare places count too). A statement '..UptoSaid' is the law's where the arguments, and the package variables that the reading takes, are together of bulk at most 1048576: NARROWER than '..Said'. Prove '..Said' where nothing that the law and all that it calls make is longer than what came in: it says more and counts as full. Else prove '..UptoSaid'. A law counts once. -/
mutual
def uptoBulk {H : Type} : DataW H → Nat
  | .lit (.string bytes) => bytes.length + 1
  | .lit _ => 1
  | .nil => 1
  | .ptr d => uptoBulk d + 1
  | .slice elems spare => uptoBulkAll elems + uptoBulkAll spare + 1
  | .agg parts => uptoBulkAll parts + 1
  | .iface _ d => uptoBulk d + 1
  | .map entries => uptoBulkEntries entries + 1
  | .held _ => 1
def uptoBulkAll {H : Type} : List (DataW H) → Nat
  | [] => 0
  | d :: r => uptoBulk d + uptoBulkAll r
def uptoBulkEntries {H : Type} : List (Lit × DataW H) → Nat
  | [] => 0
  | x :: r => uptoBulkEntry x + uptoBulkEntries r
def uptoBulkEntry {H : Type} : Lit × DataW H → Nat
  | (.string bytes, d) => bytes.length + uptoBulk d + 1
  | (_, d) => uptoBulk d + 1
 end
def uptoSmall : (H : Type) → List (DataW H) → Bool := fun _ ds => decide (uptoBulkAll ds ≤ 1048576)
def OpenSpec.upto (s : _root_.Go.ChangeSpec) : _root_.Go.OpenSpec := { _root_.Go.OpenSpec.ofChange s with cond := some uptoSmall }

/-- 'flonglaw02.FlongsFewer', WHERE WHAT IT READS IS OF BULK AT MOST 1048576: true; the input reads as it did. -/
def flongsFewerUptoRow : OpenClaim := { program := "ytekdocalipchpaa", sum := "8e5b50ec416364ed29ed96e767bb6dbf2e72d732b4c4d3321f3b3283b86a331f", func := "flong/flonglaw02.FlongsFewer", spec := "flongsFewer", unfollowed := true, recurses := true, apart := false, narrowed := true }
def FlongsFewerUptoSaid : Prop := flongsFewerUptoRow.holds Try.pinned (OpenSpec.upto flongsFewerSpec)

/-- 'flonglaw02.FlongsShares', WHERE WHAT IT READS IS OF BULK AT MOST 1048576: true; the input reads as it did. -/
def flongsSharesUptoRow : OpenClaim := { program := "ytekdocalipchpaa", sum := "8e5b50ec416364ed29ed96e767bb6dbf2e72d732b4c4d3321f3b3283b86a331f", func := "flong/flonglaw02.FlongsShares", spec := "flongsShares", unfollowed := true, recurses := true, apart := false, narrowed := true }
def FlongsSharesUptoSaid : Prop := flongsSharesUptoRow.holds Try.pinned (OpenSpec.upto flongsSharesSpec)

/-- 'flonglaw02.FlongsMore', WHERE WHAT IT READS IS OF BULK AT MOST 1048576: true; the input reads as it did. -/
def flongsMoreUptoRow : OpenClaim := { program := "ytekdocalipchpaa", sum := "8e5b50ec416364ed29ed96e767bb6dbf2e72d732b4c4d3321f3b3283b86a331f", func := "flong/flonglaw02.FlongsMore", spec := "flongsMore", unfollowed := true, recurses := true, apart := false, narrowed := true }
def FlongsMoreUptoSaid : Prop := flongsMoreUptoRow.holds Try.pinned (OpenSpec.upto flongsMoreSpec)

/-- 'flonglaw02.FlongsLeft', WHERE WHAT IT READS IS OF BULK AT MOST 1048576: true; the input reads as it did. -/
def flongsLeftUptoRow : OpenClaim := { program := "ytekdocalipchpaa", sum := "8e5b50ec416364ed29ed96e767bb6dbf2e72d732b4c4d3321f3b3283b86a331f", func := "flong/flonglaw02.FlongsLeft", spec := "flongsLeft", unfollowed := true, recurses := true, apart := false, narrowed := true }
def FlongsLeftUptoSaid : Prop := flongsLeftUptoRow.holds Try.pinned (OpenSpec.upto flongsLeftSpec)

/-- 'flonglaw02.FlongsCast', WHERE WHAT IT READS IS OF BULK AT MOST 1048576: true; the input reads as it did. -/
def flongsCastUptoRow : OpenClaim := { program := "ytekdocalipchpaa", sum := "8e5b50ec416364ed29ed96e767bb6dbf2e72d732b4c4d3321f3b3283b86a331f", func := "flong/flonglaw02.FlongsCast", spec := "flongsCast", unfollowed := true, recurses := true, apart := false, narrowed := true }
def FlongsCastUptoSaid : Prop := flongsCastUptoRow.holds Try.pinned (OpenSpec.upto flongsCastSpec)

/-- 'flonglaw02.FlongsChance', WHERE WHAT IT READS IS OF BULK AT MOST 1048576: true; the input reads as it did. -/
def flongsChanceUptoRow : OpenClaim := { program := "ytekdocalipchpaa", sum := "8e5b50ec416364ed29ed96e767bb6dbf2e72d732b4c4d3321f3b3283b86a331f", func := "flong/flonglaw02.FlongsChance", spec := "flongsChance", unfollowed := true, recurses := true, apart := false, narrowed := true }
def FlongsChanceUptoSaid : Prop := flongsChanceUptoRow.holds Try.pinned (OpenSpec.upto flongsChanceSpec)

/-- 'flonglaw02.FlongsOrder', WHERE WHAT IT READS IS OF BULK AT MOST 1048576: true; the input reads as it did. -/
def flongsOrderUptoRow : OpenClaim := { program := "ytekdocalipchpaa", sum := "8e5b50ec416364ed29ed96e767bb6dbf2e72d732b4c4d3321f3b3283b86a331f", func := "flong/flonglaw02.FlongsOrder", spec := "flongsOrder", unfollowed := true, recurses := true, apart := false, narrowed := true }
def FlongsOrderUptoSaid : Prop := flongsOrderUptoRow.holds Try.pinned (OpenSpec.upto flongsOrderSpec)

/-- 'flonglaw02.FlongsDivide', WHERE WHAT IT READS IS OF BULK AT MOST 1048576: true; the input reads as it did. -/
def flongsDivideUptoRow : OpenClaim := { program := "ytekdocalipchpaa", sum := "8e5b50ec416364ed29ed96e767bb6dbf2e72d732b4c4d3321f3b3283b86a331f", func := "flong/flonglaw02.FlongsDivide", spec := "flongsDivide", unfollowed := true, recurses := true, apart := false, narrowed := true }
def FlongsDivideUptoSaid : Prop := flongsDivideUptoRow.holds Try.pinned (OpenSpec.upto flongsDivideSpec)

/-- 'flonglaw02.FlongsAgrees', WHERE WHAT IT READS IS OF BULK AT MOST 1048576: true; the input reads as it did. -/
def flongsAgreesUptoRow : OpenClaim := { program := "ytekdocalipchpaa", sum := "8e5b50ec416364ed29ed96e767bb6dbf2e72d732b4c4d3321f3b3283b86a331f", func := "flong/flonglaw02.FlongsAgrees", spec := "flongsAgrees", unfollowed := true, recurses := true, apart := false, narrowed := true }
def FlongsAgreesUptoSaid : Prop := flongsAgreesUptoRow.holds Try.pinned (OpenSpec.upto flongsAgreesSpec)

/-- 'flonglaw02.FlongsHolds', WHERE WHAT IT READS IS OF BULK AT MOST 1048576: true; the input reads as it did. -/
def flongsHoldsUptoRow : OpenClaim := { program := "ytekdocalipchpaa", sum := "8e5b50ec416364ed29ed96e767bb6dbf2e72d732b4c4d3321f3b3283b86a331f", func := "flong/flonglaw02.FlongsHolds", spec := "flongsHolds", unfollowed := true, recurses := true, apart := false, narrowed := true }
def FlongsHoldsUptoSaid : Prop := flongsHoldsUptoRow.holds Try.pinned (OpenSpec.upto flongsHoldsSpec)

/-- 'flonglaw02.FlongsTest', WHERE WHAT IT READS IS OF BULK AT MOST 1048576: true; the input reads as it did. -/
def flongsTestUptoRow : OpenClaim := { program := "ytekdocalipchpaa", sum := "8e5b50ec416364ed29ed96e767bb6dbf2e72d732b4c4d3321f3b3283b86a331f", func := "flong/flonglaw02.FlongsTest", spec := "flongsTest", unfollowed := true, recurses := true, apart := false, narrowed := true }
def FlongsTestUptoSaid : Prop := flongsTestUptoRow.holds Try.pinned (OpenSpec.upto flongsTestSpec)

/-- 'flonglaw02.FlongsEach', WHERE WHAT IT READS IS OF BULK AT MOST 1048576: true; the input reads as it did. -/
def flongsEachUptoRow : OpenClaim := { program := "ytekdocalipchpaa", sum := "8e5b50ec416364ed29ed96e767bb6dbf2e72d732b4c4d3321f3b3283b86a331f", func := "flong/flonglaw02.FlongsEach", spec := "flongsEach", unfollowed := true, recurses := true, apart := false, narrowed := true }
def FlongsEachUptoSaid : Prop := flongsEachUptoRow.holds Try.pinned (OpenSpec.upto flongsEachSpec)

end Rows
end Go.Proofs.Ytekdocalipchpaa
