/-
  NARROWER THAN 'FOR EVERY INPUT', by the rows' own cells (each row's printed sentence says how): FireMore: laid · FireLost: laid · FireCarry: laid · FireRemedy: laid · FireNone: laid · FireMark: laid · FirePages: laid · FireWorst: laid · FireLater: laid · FireCopy: laid · FireOrder: laid · FireEach: laid · FireSafe: laid.
  DERIVED. THE GIVEN ROWS OF THIS SEAT. 13 by the template 'for every input the law returns true; each argument reads behind the call as it read before'; 0 by the template 'total and deterministic' (their statements: YtjlopclpofbgbaaDoorTotals.lean).
  GIVEN WITH THE SEED: the statements are not yours to turn. If you find one false, say at which input.
  Laid BY PROGRAM, IN A SANDBOX (cutbox-rows.mjs): the forced cells as the released guide's own fill.sh prints them over the translation 6c0cf086eadb82a6… (all of the seat's roots in one cut). By AI agents, Wed Nov 11 2026. No macro, syntax, notation, axiom, sorry.
-/
import Derived.Test.YtjlopclpofbgbaaDoorChecked
import GoSem.Claim
import GoSem.ClaimJoined
import GoSem.ClaimMapViews
import Derived.JoinedTies
import Derived.KernelRfl
namespace Go.Proofs.YtjlopclpofbgbaaDoor
/- THE CELL 'sum', in the pinned program and in every row, IS THE sha256 OF THE DUMP (.gsa) THAT YtjlopclpofbgbaaDoorProg.lean LOADS. Nothing in Lean hashes anything: it is a label: what it is worth is what the hold of that sum in a sandbox is worth. -/
noncomputable def Tryd.pinned : Pinned := { name := "ytjlopclpofbgbaadoor", sum := "6c0cf086eadb82a6ac1daf06aa78e6331716bfeeaf4aef4988445183127fa0ff", checked := Tryd.checked }
namespace Rows
def none {H : Type} : Left H := { results := [], args := [] }

/- WHAT THE LISTED PACKAGE-LEVEL VARIABLES READ AS WHEN THE CALL BEGINS. Each datum BY PROGRAM (the guide's laid-datum.mjs) off the statement by which the dump's own 'gosem.cut.vars' lays the variable. In a bare row this is a premise. The card (YtjlopclpofbgbaaDoorCards.lean) ties it to the program's text. -/
def laid_math_bits_deBruijn32tab {H : Type} : DataW H := .agg [.lit (.int .u8 0), .lit (.int .u8 1), .lit (.int .u8 28), .lit (.int .u8 2), .lit (.int .u8 29), .lit (.int .u8 14), .lit (.int .u8 24), .lit (.int .u8 3), .lit (.int .u8 30), .lit (.int .u8 22), .lit (.int .u8 20), .lit (.int .u8 15), .lit (.int .u8 25), .lit (.int .u8 17), .lit (.int .u8 4), .lit (.int .u8 8), .lit (.int .u8 31), .lit (.int .u8 27), .lit (.int .u8 13), .lit (.int .u8 23), .lit (.int .u8 21), .lit (.int .u8 19), .lit (.int .u8 16), .lit (.int .u8 7), .lit (.int .u8 26), .lit (.int .u8 12), .lit (.int .u8 18), .lit (.int .u8 6), .lit (.int .u8 11), .lit (.int .u8 5), .lit (.int .u8 10), .lit (.int .u8 9)]
def laid_math_bits_deBruijn64tab {H : Type} : DataW H := .agg [.lit (.int .u8 0), .lit (.int .u8 1), .lit (.int .u8 56), .lit (.int .u8 2), .lit (.int .u8 57), .lit (.int .u8 49), .lit (.int .u8 28), .lit (.int .u8 3), .lit (.int .u8 61), .lit (.int .u8 58), .lit (.int .u8 42), .lit (.int .u8 50), .lit (.int .u8 38), .lit (.int .u8 29), .lit (.int .u8 17), .lit (.int .u8 4), .lit (.int .u8 62), .lit (.int .u8 47), .lit (.int .u8 59), .lit (.int .u8 36), .lit (.int .u8 45), .lit (.int .u8 43), .lit (.int .u8 51), .lit (.int .u8 22), .lit (.int .u8 53), .lit (.int .u8 39), .lit (.int .u8 33), .lit (.int .u8 30), .lit (.int .u8 24), .lit (.int .u8 18), .lit (.int .u8 12), .lit (.int .u8 5), .lit (.int .u8 63), .lit (.int .u8 55), .lit (.int .u8 48), .lit (.int .u8 27), .lit (.int .u8 60), .lit (.int .u8 41), .lit (.int .u8 37), .lit (.int .u8 16), .lit (.int .u8 46), .lit (.int .u8 35), .lit (.int .u8 44), .lit (.int .u8 21), .lit (.int .u8 52), .lit (.int .u8 32), .lit (.int .u8 23), .lit (.int .u8 11), .lit (.int .u8 54), .lit (.int .u8 26), .lit (.int .u8 40), .lit (.int .u8 15), .lit (.int .u8 34), .lit (.int .u8 20), .lit (.int .u8 31), .lit (.int .u8 10), .lit (.int .u8 25), .lit (.int .u8 14), .lit (.int .u8 19), .lit (.int .u8 9), .lit (.int .u8 13), .lit (.int .u8 8), .lit (.int .u8 7), .lit (.int .u8 6)]

/-- 'flonglaw10.FireMore': WHATEVER THE INPUT: true; the input reads as it did. -/
def fireMoreSpec : ChangeSpec := { name := "fireMore", fn := fun _ => fun
  | [d1, d2] => { results := [.lit (.bool true)], args := [d1, d2] }
  | _ => none }
def fireMoreRow : OpenClaim := { program := "ytjlopclpofbgbaadoor", sum := "6c0cf086eadb82a6ac1daf06aa78e6331716bfeeaf4aef4988445183127fa0ff", func := "flong/flonglaw10.FireMore", spec := "fireMore", unfollowed := true, recurses := true, named := ["math/bits.deBruijn32tab", "math/bits.deBruijn64tab"], apart := false, laid := [("math/bits.deBruijn32tab", laid_math_bits_deBruijn32tab), ("math/bits.deBruijn64tab", laid_math_bits_deBruijn64tab)] }
def FireMoreSaid : Prop := fireMoreRow.holds Tryd.pinned (OpenSpec.ofChange fireMoreSpec)

/-- ITS FALSE NEIGHBOUR: 'it returns false'. Refute it at one input. -/
def fireMoreWrong : ChangeSpec := { name := "fireMore", fn := fun _ => fun
  | [d1, d2] => { results := [.lit (.bool false)], args := [d1, d2] }
  | _ => none }
def FireMoreWrongFalsely : Prop := fireMoreRow.holds Tryd.pinned (OpenSpec.ofChange fireMoreWrong)

/-- 'flonglaw10.FireLost': WHATEVER THE INPUT: true; the input reads as it did. -/
def fireLostSpec : ChangeSpec := { name := "fireLost", fn := fun _ => fun
  | [d1, d2, d3] => { results := [.lit (.bool true)], args := [d1, d2, d3] }
  | _ => none }
def fireLostRow : OpenClaim := { program := "ytjlopclpofbgbaadoor", sum := "6c0cf086eadb82a6ac1daf06aa78e6331716bfeeaf4aef4988445183127fa0ff", func := "flong/flonglaw10.FireLost", spec := "fireLost", unfollowed := true, recurses := true, named := ["math/bits.deBruijn32tab", "math/bits.deBruijn64tab"], apart := false, laid := [("math/bits.deBruijn32tab", laid_math_bits_deBruijn32tab), ("math/bits.deBruijn64tab", laid_math_bits_deBruijn64tab)] }
def FireLostSaid : Prop := fireLostRow.holds Tryd.pinned (OpenSpec.ofChange fireLostSpec)

/-- ITS FALSE NEIGHBOUR: 'it returns false'. Refute it at one input. -/
def fireLostWrong : ChangeSpec := { name := "fireLost", fn := fun _ => fun
  | [d1, d2, d3] => { results := [.lit (.bool false)], args := [d1, d2, d3] }
  | _ => none }
def FireLostWrongFalsely : Prop := fireLostRow.holds Tryd.pinned (OpenSpec.ofChange fireLostWrong)

/-- 'flonglaw10.FireCarry': WHATEVER THE INPUT: true; the input reads as it did. -/
def fireCarrySpec : ChangeSpec := { name := "fireCarry", fn := fun _ => fun
  | [d] => { results := [.lit (.bool true)], args := [d] }
  | _ => none }
def fireCarryRow : OpenClaim := { program := "ytjlopclpofbgbaadoor", sum := "6c0cf086eadb82a6ac1daf06aa78e6331716bfeeaf4aef4988445183127fa0ff", func := "flong/flonglaw10.FireCarry", spec := "fireCarry", unfollowed := true, recurses := true, named := ["math/bits.deBruijn32tab", "math/bits.deBruijn64tab"], apart := false, laid := [("math/bits.deBruijn32tab", laid_math_bits_deBruijn32tab), ("math/bits.deBruijn64tab", laid_math_bits_deBruijn64tab)] }
def FireCarrySaid : Prop := fireCarryRow.holds Tryd.pinned (OpenSpec.ofChange fireCarrySpec)

/-- ITS FALSE NEIGHBOUR: 'it returns false'. Refute it at one input. -/
def fireCarryWrong : ChangeSpec := { name := "fireCarry", fn := fun _ => fun
  | [d] => { results := [.lit (.bool false)], args := [d] }
  | _ => none }
def FireCarryWrongFalsely : Prop := fireCarryRow.holds Tryd.pinned (OpenSpec.ofChange fireCarryWrong)

/-- 'flonglaw10.FireRemedy': WHATEVER THE INPUT: true; the input reads as it did. -/
def fireRemedySpec : ChangeSpec := { name := "fireRemedy", fn := fun _ => fun
  | [d1, d2] => { results := [.lit (.bool true)], args := [d1, d2] }
  | _ => none }
def fireRemedyRow : OpenClaim := { program := "ytjlopclpofbgbaadoor", sum := "6c0cf086eadb82a6ac1daf06aa78e6331716bfeeaf4aef4988445183127fa0ff", func := "flong/flonglaw10.FireRemedy", spec := "fireRemedy", unfollowed := true, recurses := true, named := ["math/bits.deBruijn32tab", "math/bits.deBruijn64tab"], apart := false, laid := [("math/bits.deBruijn32tab", laid_math_bits_deBruijn32tab), ("math/bits.deBruijn64tab", laid_math_bits_deBruijn64tab)] }
def FireRemedySaid : Prop := fireRemedyRow.holds Tryd.pinned (OpenSpec.ofChange fireRemedySpec)

/-- ITS FALSE NEIGHBOUR: 'it returns false'. Refute it at one input. -/
def fireRemedyWrong : ChangeSpec := { name := "fireRemedy", fn := fun _ => fun
  | [d1, d2] => { results := [.lit (.bool false)], args := [d1, d2] }
  | _ => none }
def FireRemedyWrongFalsely : Prop := fireRemedyRow.holds Tryd.pinned (OpenSpec.ofChange fireRemedyWrong)

/-- 'flonglaw10.FireNone': WHATEVER THE INPUT: true; the input reads as it did. -/
def fireNoneSpec : ChangeSpec := { name := "fireNone", fn := fun _ => fun
  | [d1, d2] => { results := [.lit (.bool true)], args := [d1, d2] }
  | _ => none }
def fireNoneRow : OpenClaim := { program := "ytjlopclpofbgbaadoor", sum := "6c0cf086eadb82a6ac1daf06aa78e6331716bfeeaf4aef4988445183127fa0ff", func := "flong/flonglaw10.FireNone", spec := "fireNone", unfollowed := true, recurses := true, named := ["math/bits.deBruijn32tab", "math/bits.deBruijn64tab"], apart := false, laid := [("math/bits.deBruijn32tab", laid_math_bits_deBruijn32tab), ("math/bits.deBruijn64tab", laid_math_bits_deBruijn64tab)] }
def FireNoneSaid : Prop := fireNoneRow.holds Tryd.pinned (OpenSpec.ofChange fireNoneSpec)

/-- ITS FALSE NEIGHBOUR: 'it returns false'. Refute it at one input. -/
def fireNoneWrong : ChangeSpec := { name := "fireNone", fn := fun _ => fun
  | [d1, d2] => { results := [.lit (.bool false)], args := [d1, d2] }
  | _ => none }
def FireNoneWrongFalsely : Prop := fireNoneRow.holds Tryd.pinned (OpenSpec.ofChange fireNoneWrong)

/-- 'flonglaw10.FireMark': WHATEVER THE INPUT: true; the input reads as it did. -/
def fireMarkSpec : ChangeSpec := { name := "fireMark", fn := fun _ => fun
  | [d1, d2, d3] => { results := [.lit (.bool true)], args := [d1, d2, d3] }
  | _ => none }
def fireMarkRow : OpenClaim := { program := "ytjlopclpofbgbaadoor", sum := "6c0cf086eadb82a6ac1daf06aa78e6331716bfeeaf4aef4988445183127fa0ff", func := "flong/flonglaw10.FireMark", spec := "fireMark", unfollowed := true, recurses := true, named := ["math/bits.deBruijn32tab", "math/bits.deBruijn64tab"], apart := false, laid := [("math/bits.deBruijn32tab", laid_math_bits_deBruijn32tab), ("math/bits.deBruijn64tab", laid_math_bits_deBruijn64tab)] }
def FireMarkSaid : Prop := fireMarkRow.holds Tryd.pinned (OpenSpec.ofChange fireMarkSpec)

/-- ITS FALSE NEIGHBOUR: 'it returns false'. Refute it at one input. -/
def fireMarkWrong : ChangeSpec := { name := "fireMark", fn := fun _ => fun
  | [d1, d2, d3] => { results := [.lit (.bool false)], args := [d1, d2, d3] }
  | _ => none }
def FireMarkWrongFalsely : Prop := fireMarkRow.holds Tryd.pinned (OpenSpec.ofChange fireMarkWrong)

/-- 'flonglaw10.FirePages': WHATEVER THE INPUT: true; the input reads as it did. -/
def firePagesSpec : ChangeSpec := { name := "firePages", fn := fun _ => fun
  | [d1, d2] => { results := [.lit (.bool true)], args := [d1, d2] }
  | _ => none }
def firePagesRow : OpenClaim := { program := "ytjlopclpofbgbaadoor", sum := "6c0cf086eadb82a6ac1daf06aa78e6331716bfeeaf4aef4988445183127fa0ff", func := "flong/flonglaw10.FirePages", spec := "firePages", unfollowed := true, recurses := true, named := ["math/bits.deBruijn32tab", "math/bits.deBruijn64tab"], apart := false, laid := [("math/bits.deBruijn32tab", laid_math_bits_deBruijn32tab), ("math/bits.deBruijn64tab", laid_math_bits_deBruijn64tab)] }
def FirePagesSaid : Prop := firePagesRow.holds Tryd.pinned (OpenSpec.ofChange firePagesSpec)

/-- ITS FALSE NEIGHBOUR: 'it returns false'. Refute it at one input. -/
def firePagesWrong : ChangeSpec := { name := "firePages", fn := fun _ => fun
  | [d1, d2] => { results := [.lit (.bool false)], args := [d1, d2] }
  | _ => none }
def FirePagesWrongFalsely : Prop := firePagesRow.holds Tryd.pinned (OpenSpec.ofChange firePagesWrong)

/-- 'flonglaw10.FireWorst': WHATEVER THE INPUT: true; the input reads as it did. -/
def fireWorstSpec : ChangeSpec := { name := "fireWorst", fn := fun _ => fun
  | [d1, d2] => { results := [.lit (.bool true)], args := [d1, d2] }
  | _ => none }
def fireWorstRow : OpenClaim := { program := "ytjlopclpofbgbaadoor", sum := "6c0cf086eadb82a6ac1daf06aa78e6331716bfeeaf4aef4988445183127fa0ff", func := "flong/flonglaw10.FireWorst", spec := "fireWorst", unfollowed := true, recurses := true, named := ["math/bits.deBruijn32tab", "math/bits.deBruijn64tab"], apart := false, laid := [("math/bits.deBruijn32tab", laid_math_bits_deBruijn32tab), ("math/bits.deBruijn64tab", laid_math_bits_deBruijn64tab)] }
def FireWorstSaid : Prop := fireWorstRow.holds Tryd.pinned (OpenSpec.ofChange fireWorstSpec)

/-- ITS FALSE NEIGHBOUR: 'it returns false'. Refute it at one input. -/
def fireWorstWrong : ChangeSpec := { name := "fireWorst", fn := fun _ => fun
  | [d1, d2] => { results := [.lit (.bool false)], args := [d1, d2] }
  | _ => none }
def FireWorstWrongFalsely : Prop := fireWorstRow.holds Tryd.pinned (OpenSpec.ofChange fireWorstWrong)

/-- 'flonglaw10.FireLater': WHATEVER THE INPUT: true; the input reads as it did. -/
def fireLaterSpec : ChangeSpec := { name := "fireLater", fn := fun _ => fun
  | [d1, d2] => { results := [.lit (.bool true)], args := [d1, d2] }
  | _ => none }
def fireLaterRow : OpenClaim := { program := "ytjlopclpofbgbaadoor", sum := "6c0cf086eadb82a6ac1daf06aa78e6331716bfeeaf4aef4988445183127fa0ff", func := "flong/flonglaw10.FireLater", spec := "fireLater", unfollowed := true, recurses := true, named := ["math/bits.deBruijn32tab", "math/bits.deBruijn64tab"], apart := false, laid := [("math/bits.deBruijn32tab", laid_math_bits_deBruijn32tab), ("math/bits.deBruijn64tab", laid_math_bits_deBruijn64tab)] }
def FireLaterSaid : Prop := fireLaterRow.holds Tryd.pinned (OpenSpec.ofChange fireLaterSpec)

/-- ITS FALSE NEIGHBOUR: 'it returns false'. Refute it at one input. -/
def fireLaterWrong : ChangeSpec := { name := "fireLater", fn := fun _ => fun
  | [d1, d2] => { results := [.lit (.bool false)], args := [d1, d2] }
  | _ => none }
def FireLaterWrongFalsely : Prop := fireLaterRow.holds Tryd.pinned (OpenSpec.ofChange fireLaterWrong)

/-- 'flonglaw10.FireCopy': WHATEVER THE INPUT: true; the input reads as it did. -/
def fireCopySpec : ChangeSpec := { name := "fireCopy", fn := fun _ => fun
  | [d1, d2, d3] => { results := [.lit (.bool true)], args := [d1, d2, d3] }
  | _ => none }
def fireCopyRow : OpenClaim := { program := "ytjlopclpofbgbaadoor", sum := "6c0cf086eadb82a6ac1daf06aa78e6331716bfeeaf4aef4988445183127fa0ff", func := "flong/flonglaw10.FireCopy", spec := "fireCopy", unfollowed := true, recurses := true, named := ["math/bits.deBruijn32tab", "math/bits.deBruijn64tab"], apart := false, laid := [("math/bits.deBruijn32tab", laid_math_bits_deBruijn32tab), ("math/bits.deBruijn64tab", laid_math_bits_deBruijn64tab)] }
def FireCopySaid : Prop := fireCopyRow.holds Tryd.pinned (OpenSpec.ofChange fireCopySpec)

/-- ITS FALSE NEIGHBOUR: 'it returns false'. Refute it at one input. -/
def fireCopyWrong : ChangeSpec := { name := "fireCopy", fn := fun _ => fun
  | [d1, d2, d3] => { results := [.lit (.bool false)], args := [d1, d2, d3] }
  | _ => none }
def FireCopyWrongFalsely : Prop := fireCopyRow.holds Tryd.pinned (OpenSpec.ofChange fireCopyWrong)

/-- 'flonglaw10.FireOrder': WHATEVER THE INPUT: true; the input reads as it did. -/
def fireOrderSpec : ChangeSpec := { name := "fireOrder", fn := fun _ => fun
  | [d1, d2, d3] => { results := [.lit (.bool true)], args := [d1, d2, d3] }
  | _ => none }
def fireOrderRow : OpenClaim := { program := "ytjlopclpofbgbaadoor", sum := "6c0cf086eadb82a6ac1daf06aa78e6331716bfeeaf4aef4988445183127fa0ff", func := "flong/flonglaw10.FireOrder", spec := "fireOrder", unfollowed := true, recurses := true, named := ["math/bits.deBruijn32tab", "math/bits.deBruijn64tab"], apart := false, laid := [("math/bits.deBruijn32tab", laid_math_bits_deBruijn32tab), ("math/bits.deBruijn64tab", laid_math_bits_deBruijn64tab)] }
def FireOrderSaid : Prop := fireOrderRow.holds Tryd.pinned (OpenSpec.ofChange fireOrderSpec)

/-- ITS FALSE NEIGHBOUR: 'it returns false'. Refute it at one input. -/
def fireOrderWrong : ChangeSpec := { name := "fireOrder", fn := fun _ => fun
  | [d1, d2, d3] => { results := [.lit (.bool false)], args := [d1, d2, d3] }
  | _ => none }
def FireOrderWrongFalsely : Prop := fireOrderRow.holds Tryd.pinned (OpenSpec.ofChange fireOrderWrong)

/-- 'flonglaw10.FireEach': WHATEVER THE INPUT: true; the input reads as it did. -/
def fireEachSpec : ChangeSpec := { name := "fireEach", fn := fun _ => fun
  | [d1, d2] => { results := [.lit (.bool true)], args := [d1, d2] }
  | _ => none }
def fireEachRow : OpenClaim := { program := "ytjlopclpofbgbaadoor", sum := "6c0cf086eadb82a6ac1daf06aa78e6331716bfeeaf4aef4988445183127fa0ff", func := "flong/flonglaw10.FireEach", spec := "fireEach", unfollowed := true, recurses := true, named := ["math/bits.deBruijn32tab", "math/bits.deBruijn64tab"], apart := false, laid := [("math/bits.deBruijn32tab", laid_math_bits_deBruijn32tab), ("math/bits.deBruijn64tab", laid_math_bits_deBruijn64tab)] }
def FireEachSaid : Prop := fireEachRow.holds Tryd.pinned (OpenSpec.ofChange fireEachSpec)

/-- ITS FALSE NEIGHBOUR: 'it returns false'. Refute it at one input. -/
def fireEachWrong : ChangeSpec := { name := "fireEach", fn := fun _ => fun
  | [d1, d2] => { results := [.lit (.bool false)], args := [d1, d2] }
  | _ => none }
def FireEachWrongFalsely : Prop := fireEachRow.holds Tryd.pinned (OpenSpec.ofChange fireEachWrong)

/-- 'flonglaw10.FireSafe': WHATEVER THE INPUT: true; the input reads as it did. -/
def fireSafeSpec : ChangeSpec := { name := "fireSafe", fn := fun _ => fun
  | [d1, d2] => { results := [.lit (.bool true)], args := [d1, d2] }
  | _ => none }
def fireSafeRow : OpenClaim := { program := "ytjlopclpofbgbaadoor", sum := "6c0cf086eadb82a6ac1daf06aa78e6331716bfeeaf4aef4988445183127fa0ff", func := "flong/flonglaw10.FireSafe", spec := "fireSafe", unfollowed := true, recurses := true, named := ["math/bits.deBruijn32tab", "math/bits.deBruijn64tab"], apart := false, laid := [("math/bits.deBruijn32tab", laid_math_bits_deBruijn32tab), ("math/bits.deBruijn64tab", laid_math_bits_deBruijn64tab)] }
def FireSafeSaid : Prop := fireSafeRow.holds Tryd.pinned (OpenSpec.ofChange fireSafeSpec)

/-- ITS FALSE NEIGHBOUR: 'it returns false'. Refute it at one input. -/
def fireSafeWrong : ChangeSpec := { name := "fireSafe", fn := fun _ => fun
  | [d1, d2] => { results := [.lit (.bool false)], args := [d1, d2] }
  | _ => none }
def FireSafeWrongFalsely : Prop := fireSafeRow.holds Tryd.pinned (OpenSpec.ofChange fireSafeWrong)

/- THE SECOND FORM. 'bulk': how many values and letters a reading holds, each counted each time it is reached (what is shared counts as often as it is met; a slice's spare places count too). A statement '..UptoSaid' is the law's where the arguments, and the package variables that the reading takes, are together of bulk at most 1048576: NARROWER than '..Said'. Prove '..Said' where nothing that the law and all that it calls make is longer than what came in: it says more and counts as full. Else prove '..UptoSaid'. A law counts once. -/
mutual
def uptoBulk {H : Type} : DataW H → Nat
  | .lit (.string bytes) => bytes.length + 1
  | .lit _ => 1
  | .nil => 1
  | .ptr d => uptoBulk d + 1
  | .slice elems spare => uptoBulkAll elems + uptoBulkAll spare + 1
  | .agg parts => uptoBulkAll parts + 1
  | .iface _ d => uptoBulk d + 1
  | .map entries => uptoBulkEntries entries + 1
  | .held _ => 1
def uptoBulkAll {H : Type} : List (DataW H) → Nat
  | [] => 0
  | d :: r => uptoBulk d + uptoBulkAll r
def uptoBulkEntries {H : Type} : List (Lit × DataW H) → Nat
  | [] => 0
  | x :: r => uptoBulkEntry x + uptoBulkEntries r
def uptoBulkEntry {H : Type} : Lit × DataW H → Nat
  | (.string bytes, d) => bytes.length + uptoBulk d + 1
  | (_, d) => uptoBulk d + 1
 end
def uptoSmall : (H : Type) → List (DataW H) → Bool := fun _ ds => decide (uptoBulkAll ds ≤ 1048576)
def OpenSpec.upto (s : _root_.Go.ChangeSpec) : _root_.Go.OpenSpec := { _root_.Go.OpenSpec.ofChange s with cond := some uptoSmall }

/-- 'flonglaw10.FireMore', WHERE WHAT IT READS IS OF BULK AT MOST 1048576: true; the input reads as it did. -/
def fireMoreUptoRow : OpenClaim := { program := "ytjlopclpofbgbaadoor", sum := "6c0cf086eadb82a6ac1daf06aa78e6331716bfeeaf4aef4988445183127fa0ff", func := "flong/flonglaw10.FireMore", spec := "fireMore", unfollowed := true, recurses := true, named := ["math/bits.deBruijn32tab", "math/bits.deBruijn64tab"], apart := false, laid := [("math/bits.deBruijn32tab", laid_math_bits_deBruijn32tab), ("math/bits.deBruijn64tab", laid_math_bits_deBruijn64tab)], narrowed := true }
def FireMoreUptoSaid : Prop := fireMoreUptoRow.holds Tryd.pinned (OpenSpec.upto fireMoreSpec)

/-- 'flonglaw10.FireLost', WHERE WHAT IT READS IS OF BULK AT MOST 1048576: true; the input reads as it did. -/
def fireLostUptoRow : OpenClaim := { program := "ytjlopclpofbgbaadoor", sum := "6c0cf086eadb82a6ac1daf06aa78e6331716bfeeaf4aef4988445183127fa0ff", func := "flong/flonglaw10.FireLost", spec := "fireLost", unfollowed := true, recurses := true, named := ["math/bits.deBruijn32tab", "math/bits.deBruijn64tab"], apart := false, laid := [("math/bits.deBruijn32tab", laid_math_bits_deBruijn32tab), ("math/bits.deBruijn64tab", laid_math_bits_deBruijn64tab)], narrowed := true }
def FireLostUptoSaid : Prop := fireLostUptoRow.holds Tryd.pinned (OpenSpec.upto fireLostSpec)

/-- 'flonglaw10.FireCarry', WHERE WHAT IT READS IS OF BULK AT MOST 1048576: true; the input reads as it did. -/
def fireCarryUptoRow : OpenClaim := { program := "ytjlopclpofbgbaadoor", sum := "6c0cf086eadb82a6ac1daf06aa78e6331716bfeeaf4aef4988445183127fa0ff", func := "flong/flonglaw10.FireCarry", spec := "fireCarry", unfollowed := true, recurses := true, named := ["math/bits.deBruijn32tab", "math/bits.deBruijn64tab"], apart := false, laid := [("math/bits.deBruijn32tab", laid_math_bits_deBruijn32tab), ("math/bits.deBruijn64tab", laid_math_bits_deBruijn64tab)], narrowed := true }
def FireCarryUptoSaid : Prop := fireCarryUptoRow.holds Tryd.pinned (OpenSpec.upto fireCarrySpec)

/-- 'flonglaw10.FireRemedy', WHERE WHAT IT READS IS OF BULK AT MOST 1048576: true; the input reads as it did. -/
def fireRemedyUptoRow : OpenClaim := { program := "ytjlopclpofbgbaadoor", sum := "6c0cf086eadb82a6ac1daf06aa78e6331716bfeeaf4aef4988445183127fa0ff", func := "flong/flonglaw10.FireRemedy", spec := "fireRemedy", unfollowed := true, recurses := true, named := ["math/bits.deBruijn32tab", "math/bits.deBruijn64tab"], apart := false, laid := [("math/bits.deBruijn32tab", laid_math_bits_deBruijn32tab), ("math/bits.deBruijn64tab", laid_math_bits_deBruijn64tab)], narrowed := true }
def FireRemedyUptoSaid : Prop := fireRemedyUptoRow.holds Tryd.pinned (OpenSpec.upto fireRemedySpec)

/-- 'flonglaw10.FireNone', WHERE WHAT IT READS IS OF BULK AT MOST 1048576: true; the input reads as it did. -/
def fireNoneUptoRow : OpenClaim := { program := "ytjlopclpofbgbaadoor", sum := "6c0cf086eadb82a6ac1daf06aa78e6331716bfeeaf4aef4988445183127fa0ff", func := "flong/flonglaw10.FireNone", spec := "fireNone", unfollowed := true, recurses := true, named := ["math/bits.deBruijn32tab", "math/bits.deBruijn64tab"], apart := false, laid := [("math/bits.deBruijn32tab", laid_math_bits_deBruijn32tab), ("math/bits.deBruijn64tab", laid_math_bits_deBruijn64tab)], narrowed := true }
def FireNoneUptoSaid : Prop := fireNoneUptoRow.holds Tryd.pinned (OpenSpec.upto fireNoneSpec)

/-- 'flonglaw10.FireMark', WHERE WHAT IT READS IS OF BULK AT MOST 1048576: true; the input reads as it did. -/
def fireMarkUptoRow : OpenClaim := { program := "ytjlopclpofbgbaadoor", sum := "6c0cf086eadb82a6ac1daf06aa78e6331716bfeeaf4aef4988445183127fa0ff", func := "flong/flonglaw10.FireMark", spec := "fireMark", unfollowed := true, recurses := true, named := ["math/bits.deBruijn32tab", "math/bits.deBruijn64tab"], apart := false, laid := [("math/bits.deBruijn32tab", laid_math_bits_deBruijn32tab), ("math/bits.deBruijn64tab", laid_math_bits_deBruijn64tab)], narrowed := true }
def FireMarkUptoSaid : Prop := fireMarkUptoRow.holds Tryd.pinned (OpenSpec.upto fireMarkSpec)

/-- 'flonglaw10.FirePages', WHERE WHAT IT READS IS OF BULK AT MOST 1048576: true; the input reads as it did. -/
def firePagesUptoRow : OpenClaim := { program := "ytjlopclpofbgbaadoor", sum := "6c0cf086eadb82a6ac1daf06aa78e6331716bfeeaf4aef4988445183127fa0ff", func := "flong/flonglaw10.FirePages", spec := "firePages", unfollowed := true, recurses := true, named := ["math/bits.deBruijn32tab", "math/bits.deBruijn64tab"], apart := false, laid := [("math/bits.deBruijn32tab", laid_math_bits_deBruijn32tab), ("math/bits.deBruijn64tab", laid_math_bits_deBruijn64tab)], narrowed := true }
def FirePagesUptoSaid : Prop := firePagesUptoRow.holds Tryd.pinned (OpenSpec.upto firePagesSpec)

/-- 'flonglaw10.FireWorst', WHERE WHAT IT READS IS OF BULK AT MOST 1048576: true; the input reads as it did. -/
def fireWorstUptoRow : OpenClaim := { program := "ytjlopclpofbgbaadoor", sum := "6c0cf086eadb82a6ac1daf06aa78e6331716bfeeaf4aef4988445183127fa0ff", func := "flong/flonglaw10.FireWorst", spec := "fireWorst", unfollowed := true, recurses := true, named := ["math/bits.deBruijn32tab", "math/bits.deBruijn64tab"], apart := false, laid := [("math/bits.deBruijn32tab", laid_math_bits_deBruijn32tab), ("math/bits.deBruijn64tab", laid_math_bits_deBruijn64tab)], narrowed := true }
def FireWorstUptoSaid : Prop := fireWorstUptoRow.holds Tryd.pinned (OpenSpec.upto fireWorstSpec)

/-- 'flonglaw10.FireLater', WHERE WHAT IT READS IS OF BULK AT MOST 1048576: true; the input reads as it did. -/
def fireLaterUptoRow : OpenClaim := { program := "ytjlopclpofbgbaadoor", sum := "6c0cf086eadb82a6ac1daf06aa78e6331716bfeeaf4aef4988445183127fa0ff", func := "flong/flonglaw10.FireLater", spec := "fireLater", unfollowed := true, recurses := true, named := ["math/bits.deBruijn32tab", "math/bits.deBruijn64tab"], apart := false, laid := [("math/bits.deBruijn32tab", laid_math_bits_deBruijn32tab), ("math/bits.deBruijn64tab", laid_math_bits_deBruijn64tab)], narrowed := true }
def FireLaterUptoSaid : Prop := fireLaterUptoRow.holds Tryd.pinned (OpenSpec.upto fireLaterSpec)

/-- 'flonglaw10.FireCopy', WHERE WHAT IT READS IS OF BULK AT MOST 1048576: true; the input reads as it did. -/
def fireCopyUptoRow : OpenClaim := { program := "ytjlopclpofbgbaadoor", sum := "6c0cf086eadb82a6ac1daf06aa78e6331716bfeeaf4aef4988445183127fa0ff", func := "flong/flonglaw10.FireCopy", spec := "fireCopy", unfollowed := true, recurses := true, named := ["math/bits.deBruijn32tab", "math/bits.deBruijn64tab"], apart := false, laid := [("math/bits.deBruijn32tab", laid_math_bits_deBruijn32tab), ("math/bits.deBruijn64tab", laid_math_bits_deBruijn64tab)], narrowed := true }
def FireCopyUptoSaid : Prop := fireCopyUptoRow.holds Tryd.pinned (OpenSpec.upto fireCopySpec)

/-- 'flonglaw10.FireOrder', WHERE WHAT IT READS IS OF BULK AT MOST 1048576: true; the input reads as it did. -/
def fireOrderUptoRow : OpenClaim := { program := "ytjlopclpofbgbaadoor", sum := "6c0cf086eadb82a6ac1daf06aa78e6331716bfeeaf4aef4988445183127fa0ff", func := "flong/flonglaw10.FireOrder", spec := "fireOrder", unfollowed := true, recurses := true, named := ["math/bits.deBruijn32tab", "math/bits.deBruijn64tab"], apart := false, laid := [("math/bits.deBruijn32tab", laid_math_bits_deBruijn32tab), ("math/bits.deBruijn64tab", laid_math_bits_deBruijn64tab)], narrowed := true }
def FireOrderUptoSaid : Prop := fireOrderUptoRow.holds Tryd.pinned (OpenSpec.upto fireOrderSpec)

/-- 'flonglaw10.FireEach', WHERE WHAT IT READS IS OF BULK AT MOST 1048576: true; the input reads as it did. -/
def fireEachUptoRow : OpenClaim := { program := "ytjlopclpofbgbaadoor", sum := "6c0cf086eadb82a6ac1daf06aa78e6331716bfeeaf4aef4988445183127fa0ff", func := "flong/flonglaw10.FireEach", spec := "fireEach", unfollowed := true, recurses := true, named := ["math/bits.deBruijn32tab", "math/bits.deBruijn64tab"], apart := false, laid := [("math/bits.deBruijn32tab", laid_math_bits_deBruijn32tab), ("math/bits.deBruijn64tab", laid_math_bits_deBruijn64tab)], narrowed := true }
def FireEachUptoSaid : Prop := fireEachUptoRow.holds Tryd.pinned (OpenSpec.upto fireEachSpec)

/-- 'flonglaw10.FireSafe', WHERE WHAT IT READS IS OF BULK AT MOST 1048576: true; the input reads as it did. -/
def fireSafeUptoRow : OpenClaim := { program := "ytjlopclpofbgbaadoor", sum := "6c0cf086eadb82a6ac1daf06aa78e6331716bfeeaf4aef4988445183127fa0ff", func := "flong/flonglaw10.FireSafe", spec := "fireSafe", unfollowed := true, recurses := true, named := ["math/bits.deBruijn32tab", "math/bits.deBruijn64tab"], apart := false, laid := [("math/bits.deBruijn32tab", laid_math_bits_deBruijn32tab), ("math/bits.deBruijn64tab", laid_math_bits_deBruijn64tab)], narrowed := true }
def FireSafeUptoSaid : Prop := fireSafeUptoRow.holds Tryd.pinned (OpenSpec.upto fireSafeSpec)

end Rows
end Go.Proofs.YtjlopclpofbgbaaDoor
