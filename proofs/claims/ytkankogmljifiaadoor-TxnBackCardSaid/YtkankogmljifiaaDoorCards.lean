/-
  DERIVED. GIVEN WITH THE SEED: THE CARDS: each row of YtkankogmljifiaaDoorRows.lean that lists a variable, with what it lists TIED to the program's text (the seventh form; the later family's looks); each row that meets fmt, with fmt's text TOLD by the authors' own Lean function (tested against real Go, not proved from fmt's source: count such statements apart). THE CARD IS WHAT COUNTS. Prove the row's statement (the work); the ties are given (YtkankogmljifiaaDoorTie.lean); close each card by the builder's one call (the guide's Derived/Test/ToyasCard.lean, 'card_holds'). Laid BY PROGRAM, IN A SANDBOX (cutbox-door.mjs). By AI agents, Wed Nov 11 2026. No macro, syntax, notation, axiom, sorry.
-/
import Derived.Test.YtkankogmljifiaaDoorRows
import GoSem.ClaimSeven
namespace Go.Proofs.YtkankogmljifiaaDoor
namespace Rows

/-- THE TIED CARD OF 'palinodelaw12.TxnTells'. -/
def txnTellsCard : Claim7 := { stood := { row := txnTellsRow, standIns := [], harness := (true, "1c84dcb858f55507e5a70e3ce8caa928727f257b722d9e6d238b5eb2aec53e6b"), looks := false }, kinds := [], alts := [], laidByText := true, laidKinds := [.data, .pinned], laidTests := true, laidLooks := .later }
def TxnTellsCardSaid : Prop := Claim7.holds Tryd.pinned (.plain (OpenSpec.ofChange txnTellsSpec)) txnTellsCard

/-- THE TIED CARD OF 'palinodelaw12.TxnOrder'. -/
def txnOrderCard : Claim7 := { stood := { row := txnOrderRow, standIns := [], harness := (true, "1c84dcb858f55507e5a70e3ce8caa928727f257b722d9e6d238b5eb2aec53e6b"), looks := false }, kinds := [], alts := [], laidByText := true, laidKinds := [.data, .pinned], laidTests := true, laidLooks := .later }
def TxnOrderCardSaid : Prop := Claim7.holds Tryd.pinned (.plain (OpenSpec.ofChange txnOrderSpec)) txnOrderCard

/-- THE TIED CARD OF 'palinodelaw12.TxnPlaces'. -/
def txnPlacesCard : Claim7 := { stood := { row := txnPlacesRow, standIns := [], harness := (true, "1c84dcb858f55507e5a70e3ce8caa928727f257b722d9e6d238b5eb2aec53e6b"), looks := false }, kinds := [], alts := [], laidByText := true, laidKinds := [.data, .pinned], laidTests := true, laidLooks := .later }
def TxnPlacesCardSaid : Prop := Claim7.holds Tryd.pinned (.plain (OpenSpec.ofChange txnPlacesSpec)) txnPlacesCard

/-- THE TIED CARD OF 'palinodelaw12.TxnReads'. -/
def txnReadsCard : Claim7 := { stood := { row := txnReadsRow, standIns := [], harness := (true, "1c84dcb858f55507e5a70e3ce8caa928727f257b722d9e6d238b5eb2aec53e6b"), looks := false }, kinds := [], alts := [], laidByText := true, laidKinds := [.data, .pinned], laidTests := true, laidLooks := .later }
def TxnReadsCardSaid : Prop := Claim7.holds Tryd.pinned (.plain (OpenSpec.ofChange txnReadsSpec)) txnReadsCard

/-- THE TIED CARD OF 'palinodelaw12.TxnBack'. -/
def txnBackCard : Claim7 := { stood := { row := txnBackRow, standIns := [], harness := (true, "1c84dcb858f55507e5a70e3ce8caa928727f257b722d9e6d238b5eb2aec53e6b"), looks := false }, kinds := [], alts := [], laidByText := true, laidKinds := [.data, .pinned], laidTests := true, laidLooks := .later }
def TxnBackCardSaid : Prop := Claim7.holds Tryd.pinned (.plain (OpenSpec.ofChange txnBackSpec)) txnBackCard

/-- THE SECOND FORM's CARD OF 'palinodelaw12.TxnTells'. -/
def txnTellsUptoCard : Claim7 := { stood := { row := txnTellsUptoRow, standIns := [], harness := (true, "1c84dcb858f55507e5a70e3ce8caa928727f257b722d9e6d238b5eb2aec53e6b"), looks := false }, kinds := [], alts := [], laidByText := true, laidKinds := [.data, .pinned], laidTests := true, laidLooks := .later }
def TxnTellsUptoCardSaid : Prop := Claim7.holds Tryd.pinned (.plain (OpenSpec.upto txnTellsSpec)) txnTellsUptoCard

/-- THE SECOND FORM's CARD OF 'palinodelaw12.TxnOrder'. -/
def txnOrderUptoCard : Claim7 := { stood := { row := txnOrderUptoRow, standIns := [], harness := (true, "1c84dcb858f55507e5a70e3ce8caa928727f257b722d9e6d238b5eb2aec53e6b"), looks := false }, kinds := [], alts := [], laidByText := true, laidKinds := [.data, .pinned], laidTests := true, laidLooks := .later }
def TxnOrderUptoCardSaid : Prop := Claim7.holds Tryd.pinned (.plain (OpenSpec.upto txnOrderSpec)) txnOrderUptoCard

/-- THE SECOND FORM's CARD OF 'palinodelaw12.TxnPlaces'. -/
def txnPlacesUptoCard : Claim7 := { stood := { row := txnPlacesUptoRow, standIns := [], harness := (true, "1c84dcb858f55507e5a70e3ce8caa928727f257b722d9e6d238b5eb2aec53e6b"), looks := false }, kinds := [], alts := [], laidByText := true, laidKinds := [.data, .pinned], laidTests := true, laidLooks := .later }
def TxnPlacesUptoCardSaid : Prop := Claim7.holds Tryd.pinned (.plain (OpenSpec.upto txnPlacesSpec)) txnPlacesUptoCard

/-- THE SECOND FORM's CARD OF 'palinodelaw12.TxnReads'. -/
def txnReadsUptoCard : Claim7 := { stood := { row := txnReadsUptoRow, standIns := [], harness := (true, "1c84dcb858f55507e5a70e3ce8caa928727f257b722d9e6d238b5eb2aec53e6b"), looks := false }, kinds := [], alts := [], laidByText := true, laidKinds := [.data, .pinned], laidTests := true, laidLooks := .later }
def TxnReadsUptoCardSaid : Prop := Claim7.holds Tryd.pinned (.plain (OpenSpec.upto txnReadsSpec)) txnReadsUptoCard

/-- THE SECOND FORM's CARD OF 'palinodelaw12.TxnBack'. -/
def txnBackUptoCard : Claim7 := { stood := { row := txnBackUptoRow, standIns := [], harness := (true, "1c84dcb858f55507e5a70e3ce8caa928727f257b722d9e6d238b5eb2aec53e6b"), looks := false }, kinds := [], alts := [], laidByText := true, laidKinds := [.data, .pinned], laidTests := true, laidLooks := .later }
def TxnBackUptoCardSaid : Prop := Claim7.holds Tryd.pinned (.plain (OpenSpec.upto txnBackSpec)) txnBackUptoCard
end Rows
end Go.Proofs.YtkankogmljifiaaDoor
