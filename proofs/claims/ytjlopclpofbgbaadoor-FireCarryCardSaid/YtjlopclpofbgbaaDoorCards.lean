/-
  DERIVED. GIVEN WITH THE SEED: THE CARDS: each row of YtjlopclpofbgbaaDoorRows.lean that lists a variable, with what it lists TIED to the program's text (the seventh form; the later family's looks); each row that meets fmt, with fmt's text TOLD by the authors' own Lean function (tested against real Go, not proved from fmt's source: count such statements apart). THE CARD IS WHAT COUNTS. Prove the row's statement (the work); the ties are given (YtjlopclpofbgbaaDoorTie.lean); close each card by the builder's one call (the guide's Derived/Test/ToyasCard.lean, 'card_holds'). Laid BY PROGRAM, IN A SANDBOX (cutbox-door.mjs). By AI agents, Wed Nov 11 2026. No macro, syntax, notation, axiom, sorry.
-/
import Derived.Test.YtjlopclpofbgbaaDoorRows
import GoSem.ClaimSeven
namespace Go.Proofs.YtjlopclpofbgbaaDoor
namespace Rows

/-- THE TIED CARD OF 'flonglaw10.FireMore'. -/
def fireMoreCard : Claim7 := { stood := { row := fireMoreRow, standIns := [], harness := (true, "462ccd0eb617d2b0c6a6ca68d184036c1b227afe919a42031703619e28ebbc55"), looks := false }, kinds := [], alts := [], laidByText := true, laidKinds := [.data, .data], laidTests := true, laidLooks := .later }
def FireMoreCardSaid : Prop := Claim7.holds Tryd.pinned (.plain (OpenSpec.ofChange fireMoreSpec)) fireMoreCard

/-- THE TIED CARD OF 'flonglaw10.FireLost'. -/
def fireLostCard : Claim7 := { stood := { row := fireLostRow, standIns := [], harness := (true, "462ccd0eb617d2b0c6a6ca68d184036c1b227afe919a42031703619e28ebbc55"), looks := false }, kinds := [], alts := [], laidByText := true, laidKinds := [.data, .data], laidTests := true, laidLooks := .later }
def FireLostCardSaid : Prop := Claim7.holds Tryd.pinned (.plain (OpenSpec.ofChange fireLostSpec)) fireLostCard

/-- THE TIED CARD OF 'flonglaw10.FireCarry'. -/
def fireCarryCard : Claim7 := { stood := { row := fireCarryRow, standIns := [], harness := (true, "462ccd0eb617d2b0c6a6ca68d184036c1b227afe919a42031703619e28ebbc55"), looks := false }, kinds := [], alts := [], laidByText := true, laidKinds := [.data, .data], laidTests := true, laidLooks := .later }
def FireCarryCardSaid : Prop := Claim7.holds Tryd.pinned (.plain (OpenSpec.ofChange fireCarrySpec)) fireCarryCard

/-- THE TIED CARD OF 'flonglaw10.FireRemedy'. -/
def fireRemedyCard : Claim7 := { stood := { row := fireRemedyRow, standIns := [], harness := (true, "462ccd0eb617d2b0c6a6ca68d184036c1b227afe919a42031703619e28ebbc55"), looks := false }, kinds := [], alts := [], laidByText := true, laidKinds := [.data, .data], laidTests := true, laidLooks := .later }
def FireRemedyCardSaid : Prop := Claim7.holds Tryd.pinned (.plain (OpenSpec.ofChange fireRemedySpec)) fireRemedyCard

/-- THE TIED CARD OF 'flonglaw10.FireNone'. -/
def fireNoneCard : Claim7 := { stood := { row := fireNoneRow, standIns := [], harness := (true, "462ccd0eb617d2b0c6a6ca68d184036c1b227afe919a42031703619e28ebbc55"), looks := false }, kinds := [], alts := [], laidByText := true, laidKinds := [.data, .data], laidTests := true, laidLooks := .later }
def FireNoneCardSaid : Prop := Claim7.holds Tryd.pinned (.plain (OpenSpec.ofChange fireNoneSpec)) fireNoneCard

/-- THE TIED CARD OF 'flonglaw10.FireMark'. -/
def fireMarkCard : Claim7 := { stood := { row := fireMarkRow, standIns := [], harness := (true, "462ccd0eb617d2b0c6a6ca68d184036c1b227afe919a42031703619e28ebbc55"), looks := false }, kinds := [], alts := [], laidByText := true, laidKinds := [.data, .data], laidTests := true, laidLooks := .later }
def FireMarkCardSaid : Prop := Claim7.holds Tryd.pinned (.plain (OpenSpec.ofChange fireMarkSpec)) fireMarkCard

/-- THE TIED CARD OF 'flonglaw10.FirePages'. -/
def firePagesCard : Claim7 := { stood := { row := firePagesRow, standIns := [], harness := (true, "462ccd0eb617d2b0c6a6ca68d184036c1b227afe919a42031703619e28ebbc55"), looks := false }, kinds := [], alts := [], laidByText := true, laidKinds := [.data, .data], laidTests := true, laidLooks := .later }
def FirePagesCardSaid : Prop := Claim7.holds Tryd.pinned (.plain (OpenSpec.ofChange firePagesSpec)) firePagesCard

/-- THE TIED CARD OF 'flonglaw10.FireWorst'. -/
def fireWorstCard : Claim7 := { stood := { row := fireWorstRow, standIns := [], harness := (true, "462ccd0eb617d2b0c6a6ca68d184036c1b227afe919a42031703619e28ebbc55"), looks := false }, kinds := [], alts := [], laidByText := true, laidKinds := [.data, .data], laidTests := true, laidLooks := .later }
def FireWorstCardSaid : Prop := Claim7.holds Tryd.pinned (.plain (OpenSpec.ofChange fireWorstSpec)) fireWorstCard

/-- THE TIED CARD OF 'flonglaw10.FireLater'. -/
def fireLaterCard : Claim7 := { stood := { row := fireLaterRow, standIns := [], harness := (true, "462ccd0eb617d2b0c6a6ca68d184036c1b227afe919a42031703619e28ebbc55"), looks := false }, kinds := [], alts := [], laidByText := true, laidKinds := [.data, .data], laidTests := true, laidLooks := .later }
def FireLaterCardSaid : Prop := Claim7.holds Tryd.pinned (.plain (OpenSpec.ofChange fireLaterSpec)) fireLaterCard

/-- THE TIED CARD OF 'flonglaw10.FireCopy'. -/
def fireCopyCard : Claim7 := { stood := { row := fireCopyRow, standIns := [], harness := (true, "462ccd0eb617d2b0c6a6ca68d184036c1b227afe919a42031703619e28ebbc55"), looks := false }, kinds := [], alts := [], laidByText := true, laidKinds := [.data, .data], laidTests := true, laidLooks := .later }
def FireCopyCardSaid : Prop := Claim7.holds Tryd.pinned (.plain (OpenSpec.ofChange fireCopySpec)) fireCopyCard

/-- THE TIED CARD OF 'flonglaw10.FireOrder'. -/
def fireOrderCard : Claim7 := { stood := { row := fireOrderRow, standIns := [], harness := (true, "462ccd0eb617d2b0c6a6ca68d184036c1b227afe919a42031703619e28ebbc55"), looks := false }, kinds := [], alts := [], laidByText := true, laidKinds := [.data, .data], laidTests := true, laidLooks := .later }
def FireOrderCardSaid : Prop := Claim7.holds Tryd.pinned (.plain (OpenSpec.ofChange fireOrderSpec)) fireOrderCard

/-- THE TIED CARD OF 'flonglaw10.FireEach'. -/
def fireEachCard : Claim7 := { stood := { row := fireEachRow, standIns := [], harness := (true, "462ccd0eb617d2b0c6a6ca68d184036c1b227afe919a42031703619e28ebbc55"), looks := false }, kinds := [], alts := [], laidByText := true, laidKinds := [.data, .data], laidTests := true, laidLooks := .later }
def FireEachCardSaid : Prop := Claim7.holds Tryd.pinned (.plain (OpenSpec.ofChange fireEachSpec)) fireEachCard

/-- THE TIED CARD OF 'flonglaw10.FireSafe'. -/
def fireSafeCard : Claim7 := { stood := { row := fireSafeRow, standIns := [], harness := (true, "462ccd0eb617d2b0c6a6ca68d184036c1b227afe919a42031703619e28ebbc55"), looks := false }, kinds := [], alts := [], laidByText := true, laidKinds := [.data, .data], laidTests := true, laidLooks := .later }
def FireSafeCardSaid : Prop := Claim7.holds Tryd.pinned (.plain (OpenSpec.ofChange fireSafeSpec)) fireSafeCard

/-- THE SECOND FORM's CARD OF 'flonglaw10.FireMore'. -/
def fireMoreUptoCard : Claim7 := { stood := { row := fireMoreUptoRow, standIns := [], harness := (true, "462ccd0eb617d2b0c6a6ca68d184036c1b227afe919a42031703619e28ebbc55"), looks := false }, kinds := [], alts := [], laidByText := true, laidKinds := [.data, .data], laidTests := true, laidLooks := .later }
def FireMoreUptoCardSaid : Prop := Claim7.holds Tryd.pinned (.plain (OpenSpec.upto fireMoreSpec)) fireMoreUptoCard

/-- THE SECOND FORM's CARD OF 'flonglaw10.FireLost'. -/
def fireLostUptoCard : Claim7 := { stood := { row := fireLostUptoRow, standIns := [], harness := (true, "462ccd0eb617d2b0c6a6ca68d184036c1b227afe919a42031703619e28ebbc55"), looks := false }, kinds := [], alts := [], laidByText := true, laidKinds := [.data, .data], laidTests := true, laidLooks := .later }
def FireLostUptoCardSaid : Prop := Claim7.holds Tryd.pinned (.plain (OpenSpec.upto fireLostSpec)) fireLostUptoCard

/-- THE SECOND FORM's CARD OF 'flonglaw10.FireCarry'. -/
def fireCarryUptoCard : Claim7 := { stood := { row := fireCarryUptoRow, standIns := [], harness := (true, "462ccd0eb617d2b0c6a6ca68d184036c1b227afe919a42031703619e28ebbc55"), looks := false }, kinds := [], alts := [], laidByText := true, laidKinds := [.data, .data], laidTests := true, laidLooks := .later }
def FireCarryUptoCardSaid : Prop := Claim7.holds Tryd.pinned (.plain (OpenSpec.upto fireCarrySpec)) fireCarryUptoCard

/-- THE SECOND FORM's CARD OF 'flonglaw10.FireRemedy'. -/
def fireRemedyUptoCard : Claim7 := { stood := { row := fireRemedyUptoRow, standIns := [], harness := (true, "462ccd0eb617d2b0c6a6ca68d184036c1b227afe919a42031703619e28ebbc55"), looks := false }, kinds := [], alts := [], laidByText := true, laidKinds := [.data, .data], laidTests := true, laidLooks := .later }
def FireRemedyUptoCardSaid : Prop := Claim7.holds Tryd.pinned (.plain (OpenSpec.upto fireRemedySpec)) fireRemedyUptoCard

/-- THE SECOND FORM's CARD OF 'flonglaw10.FireNone'. -/
def fireNoneUptoCard : Claim7 := { stood := { row := fireNoneUptoRow, standIns := [], harness := (true, "462ccd0eb617d2b0c6a6ca68d184036c1b227afe919a42031703619e28ebbc55"), looks := false }, kinds := [], alts := [], laidByText := true, laidKinds := [.data, .data], laidTests := true, laidLooks := .later }
def FireNoneUptoCardSaid : Prop := Claim7.holds Tryd.pinned (.plain (OpenSpec.upto fireNoneSpec)) fireNoneUptoCard

/-- THE SECOND FORM's CARD OF 'flonglaw10.FireMark'. -/
def fireMarkUptoCard : Claim7 := { stood := { row := fireMarkUptoRow, standIns := [], harness := (true, "462ccd0eb617d2b0c6a6ca68d184036c1b227afe919a42031703619e28ebbc55"), looks := false }, kinds := [], alts := [], laidByText := true, laidKinds := [.data, .data], laidTests := true, laidLooks := .later }
def FireMarkUptoCardSaid : Prop := Claim7.holds Tryd.pinned (.plain (OpenSpec.upto fireMarkSpec)) fireMarkUptoCard

/-- THE SECOND FORM's CARD OF 'flonglaw10.FirePages'. -/
def firePagesUptoCard : Claim7 := { stood := { row := firePagesUptoRow, standIns := [], harness := (true, "462ccd0eb617d2b0c6a6ca68d184036c1b227afe919a42031703619e28ebbc55"), looks := false }, kinds := [], alts := [], laidByText := true, laidKinds := [.data, .data], laidTests := true, laidLooks := .later }
def FirePagesUptoCardSaid : Prop := Claim7.holds Tryd.pinned (.plain (OpenSpec.upto firePagesSpec)) firePagesUptoCard

/-- THE SECOND FORM's CARD OF 'flonglaw10.FireWorst'. -/
def fireWorstUptoCard : Claim7 := { stood := { row := fireWorstUptoRow, standIns := [], harness := (true, "462ccd0eb617d2b0c6a6ca68d184036c1b227afe919a42031703619e28ebbc55"), looks := false }, kinds := [], alts := [], laidByText := true, laidKinds := [.data, .data], laidTests := true, laidLooks := .later }
def FireWorstUptoCardSaid : Prop := Claim7.holds Tryd.pinned (.plain (OpenSpec.upto fireWorstSpec)) fireWorstUptoCard

/-- THE SECOND FORM's CARD OF 'flonglaw10.FireLater'. -/
def fireLaterUptoCard : Claim7 := { stood := { row := fireLaterUptoRow, standIns := [], harness := (true, "462ccd0eb617d2b0c6a6ca68d184036c1b227afe919a42031703619e28ebbc55"), looks := false }, kinds := [], alts := [], laidByText := true, laidKinds := [.data, .data], laidTests := true, laidLooks := .later }
def FireLaterUptoCardSaid : Prop := Claim7.holds Tryd.pinned (.plain (OpenSpec.upto fireLaterSpec)) fireLaterUptoCard

/-- THE SECOND FORM's CARD OF 'flonglaw10.FireCopy'. -/
def fireCopyUptoCard : Claim7 := { stood := { row := fireCopyUptoRow, standIns := [], harness := (true, "462ccd0eb617d2b0c6a6ca68d184036c1b227afe919a42031703619e28ebbc55"), looks := false }, kinds := [], alts := [], laidByText := true, laidKinds := [.data, .data], laidTests := true, laidLooks := .later }
def FireCopyUptoCardSaid : Prop := Claim7.holds Tryd.pinned (.plain (OpenSpec.upto fireCopySpec)) fireCopyUptoCard

/-- THE SECOND FORM's CARD OF 'flonglaw10.FireOrder'. -/
def fireOrderUptoCard : Claim7 := { stood := { row := fireOrderUptoRow, standIns := [], harness := (true, "462ccd0eb617d2b0c6a6ca68d184036c1b227afe919a42031703619e28ebbc55"), looks := false }, kinds := [], alts := [], laidByText := true, laidKinds := [.data, .data], laidTests := true, laidLooks := .later }
def FireOrderUptoCardSaid : Prop := Claim7.holds Tryd.pinned (.plain (OpenSpec.upto fireOrderSpec)) fireOrderUptoCard

/-- THE SECOND FORM's CARD OF 'flonglaw10.FireEach'. -/
def fireEachUptoCard : Claim7 := { stood := { row := fireEachUptoRow, standIns := [], harness := (true, "462ccd0eb617d2b0c6a6ca68d184036c1b227afe919a42031703619e28ebbc55"), looks := false }, kinds := [], alts := [], laidByText := true, laidKinds := [.data, .data], laidTests := true, laidLooks := .later }
def FireEachUptoCardSaid : Prop := Claim7.holds Tryd.pinned (.plain (OpenSpec.upto fireEachSpec)) fireEachUptoCard

/-- THE SECOND FORM's CARD OF 'flonglaw10.FireSafe'. -/
def fireSafeUptoCard : Claim7 := { stood := { row := fireSafeUptoRow, standIns := [], harness := (true, "462ccd0eb617d2b0c6a6ca68d184036c1b227afe919a42031703619e28ebbc55"), looks := false }, kinds := [], alts := [], laidByText := true, laidKinds := [.data, .data], laidTests := true, laidLooks := .later }
def FireSafeUptoCardSaid : Prop := Claim7.holds Tryd.pinned (.plain (OpenSpec.upto fireSafeSpec)) fireSafeUptoCard
end Rows
end Go.Proofs.YtjlopclpofbgbaaDoor
