/-
  NARROWER THAN 'FOR EVERY INPUT', by the rows' own cells (each row's printed sentence says how): TxnTells: laid · TxnOrder: laid · TxnPlaces: laid · TxnReads: laid · TxnBack: laid.
  DERIVED. THE GIVEN ROWS OF THIS SEAT. 5 by the template 'for every input the law returns true; each argument reads behind the call as it read before'; 0 by the template 'total and deterministic' (their statements: YtkankogmljifiaaDoorTotals.lean).
  GIVEN WITH THE SEED: the statements are not yours to turn. If you find one false, say at which input.
  Laid BY PROGRAM, IN A SANDBOX (cutbox-rows.mjs): the forced cells as the released guide's own fill.sh prints them over the translation 15836f283a87d370… (all of the seat's roots in one cut). By AI agents, Wed Nov 11 2026. No macro, syntax, notation, axiom, sorry.
-/
import Derived.Test.YtkankogmljifiaaDoorChecked
import GoSem.PinnedTables
import GoSem.Claim
import GoSem.ClaimJoined
import GoSem.ClaimMapViews
import Derived.JoinedTies
import Derived.KernelRfl
namespace Go.Proofs.YtkankogmljifiaaDoor
/- THE CELL 'sum', in the pinned program and in every row, IS THE sha256 OF THE DUMP (.gsa) THAT YtkankogmljifiaaDoorProg.lean LOADS. Nothing in Lean hashes anything: it is a label: what it is worth is what the hold of that sum in a sandbox is worth. -/
noncomputable def Tryd.pinned : Pinned := { name := "ytkankogmljifiaadoor", sum := "15836f283a87d37009e967bdaac6147a856f80558b5c1de3b74cd24b47c15577", checked := Tryd.checked }
namespace Rows
def none {H : Type} : Left H := { results := [], args := [] }

/- WHAT THE LISTED PACKAGE-LEVEL VARIABLES READ AS WHEN THE CALL BEGINS. Each datum BY PROGRAM (the guide's laid-datum.mjs) off the statement by which the dump's own 'gosem.cut.vars' lays the variable. In a bare row this is a premise. The card (YtkankogmljifiaaDoorCards.lean) ties it to the program's text. -/
def laid_unicode_utf8_acceptRanges {H : Type} : DataW H := .agg [.agg [.lit (.int .u8 128), .lit (.int .u8 191)], .agg [.lit (.int .u8 160), .lit (.int .u8 191)], .agg [.lit (.int .u8 128), .lit (.int .u8 159)], .agg [.lit (.int .u8 144), .lit (.int .u8 191)], .agg [.lit (.int .u8 128), .lit (.int .u8 143)], .agg [.lit (.int .u8 0), .lit (.int .u8 0)], .agg [.lit (.int .u8 0), .lit (.int .u8 0)], .agg [.lit (.int .u8 0), .lit (.int .u8 0)], .agg [.lit (.int .u8 0), .lit (.int .u8 0)], .agg [.lit (.int .u8 0), .lit (.int .u8 0)], .agg [.lit (.int .u8 0), .lit (.int .u8 0)], .agg [.lit (.int .u8 0), .lit (.int .u8 0)], .agg [.lit (.int .u8 0), .lit (.int .u8 0)], .agg [.lit (.int .u8 0), .lit (.int .u8 0)], .agg [.lit (.int .u8 0), .lit (.int .u8 0)], .agg [.lit (.int .u8 0), .lit (.int .u8 0)]]
/-- One of Go's own tables, pinned by name: the form's constant. -/
def laid_unicode_utf8_first : DataW Unit := Go.Pinned.utf8First

/-- 'palinodelaw12.TxnTells': WHATEVER THE INPUT: true; the input reads as it did. -/
def txnTellsSpec : ChangeSpec := { name := "txnTells", fn := fun _ => fun
  | [d1, d2] => { results := [.lit (.bool true)], args := [d1, d2] }
  | _ => none }
def txnTellsRow : OpenClaim := { program := "ytkankogmljifiaadoor", sum := "15836f283a87d37009e967bdaac6147a856f80558b5c1de3b74cd24b47c15577", func := "palinode/palinodelaw12.TxnTells", spec := "txnTells", inPlace := ["internal/abi.NoEscape"], unfollowed := true, recurses := true, named := ["unicode/utf8.first", "unicode/utf8.acceptRanges"], apart := false, laid := [("unicode/utf8.acceptRanges", laid_unicode_utf8_acceptRanges), ("unicode/utf8.first", laid_unicode_utf8_first)] }
def TxnTellsSaid : Prop := txnTellsRow.holds Tryd.pinned (OpenSpec.ofChange txnTellsSpec)

/-- ITS FALSE NEIGHBOUR: 'it returns false'. Refute it at one input. -/
def txnTellsWrong : ChangeSpec := { name := "txnTells", fn := fun _ => fun
  | [d1, d2] => { results := [.lit (.bool false)], args := [d1, d2] }
  | _ => none }
def TxnTellsWrongFalsely : Prop := txnTellsRow.holds Tryd.pinned (OpenSpec.ofChange txnTellsWrong)

/-- 'palinodelaw12.TxnOrder': WHATEVER THE INPUT: true; the input reads as it did. -/
def txnOrderSpec : ChangeSpec := { name := "txnOrder", fn := fun _ => fun
  | [d] => { results := [.lit (.bool true)], args := [d] }
  | _ => none }
def txnOrderRow : OpenClaim := { program := "ytkankogmljifiaadoor", sum := "15836f283a87d37009e967bdaac6147a856f80558b5c1de3b74cd24b47c15577", func := "palinode/palinodelaw12.TxnOrder", spec := "txnOrder", inPlace := ["slices.overlaps[palinode/api.Txn]"], unfollowed := true, recurses := true, named := ["unicode/utf8.first", "unicode/utf8.acceptRanges"], apart := false, laid := [("unicode/utf8.acceptRanges", laid_unicode_utf8_acceptRanges), ("unicode/utf8.first", laid_unicode_utf8_first)] }
def TxnOrderSaid : Prop := txnOrderRow.holds Tryd.pinned (OpenSpec.ofChange txnOrderSpec)

/-- ITS FALSE NEIGHBOUR: 'it returns false'. Refute it at one input. -/
def txnOrderWrong : ChangeSpec := { name := "txnOrder", fn := fun _ => fun
  | [d] => { results := [.lit (.bool false)], args := [d] }
  | _ => none }
def TxnOrderWrongFalsely : Prop := txnOrderRow.holds Tryd.pinned (OpenSpec.ofChange txnOrderWrong)

/-- 'palinodelaw12.TxnPlaces': WHATEVER THE INPUT: true; the input reads as it did. -/
def txnPlacesSpec : ChangeSpec := { name := "txnPlaces", fn := fun _ => fun
  | [d1, d2] => { results := [.lit (.bool true)], args := [d1, d2] }
  | _ => none }
def txnPlacesRow : OpenClaim := { program := "ytkankogmljifiaadoor", sum := "15836f283a87d37009e967bdaac6147a856f80558b5c1de3b74cd24b47c15577", func := "palinode/palinodelaw12.TxnPlaces", spec := "txnPlaces", inPlace := ["slices.overlaps[palinode/api.Txn]"], unfollowed := true, recurses := true, named := ["unicode/utf8.first", "unicode/utf8.acceptRanges"], apart := false, laid := [("unicode/utf8.acceptRanges", laid_unicode_utf8_acceptRanges), ("unicode/utf8.first", laid_unicode_utf8_first)] }
def TxnPlacesSaid : Prop := txnPlacesRow.holds Tryd.pinned (OpenSpec.ofChange txnPlacesSpec)

/-- ITS FALSE NEIGHBOUR: 'it returns false'. Refute it at one input. -/
def txnPlacesWrong : ChangeSpec := { name := "txnPlaces", fn := fun _ => fun
  | [d1, d2] => { results := [.lit (.bool false)], args := [d1, d2] }
  | _ => none }
def TxnPlacesWrongFalsely : Prop := txnPlacesRow.holds Tryd.pinned (OpenSpec.ofChange txnPlacesWrong)

/-- 'palinodelaw12.TxnReads': WHATEVER THE INPUT: true; the input reads as it did. -/
def txnReadsSpec : ChangeSpec := { name := "txnReads", fn := fun _ => fun
  | [d1, d2] => { results := [.lit (.bool true)], args := [d1, d2] }
  | _ => none }
def txnReadsRow : OpenClaim := { program := "ytkankogmljifiaadoor", sum := "15836f283a87d37009e967bdaac6147a856f80558b5c1de3b74cd24b47c15577", func := "palinode/palinodelaw12.TxnReads", spec := "txnReads", unfollowed := true, recurses := true, named := ["unicode/utf8.first", "unicode/utf8.acceptRanges"], apart := false, laid := [("unicode/utf8.acceptRanges", laid_unicode_utf8_acceptRanges), ("unicode/utf8.first", laid_unicode_utf8_first)] }
def TxnReadsSaid : Prop := txnReadsRow.holds Tryd.pinned (OpenSpec.ofChange txnReadsSpec)

/-- ITS FALSE NEIGHBOUR: 'it returns false'. Refute it at one input. -/
def txnReadsWrong : ChangeSpec := { name := "txnReads", fn := fun _ => fun
  | [d1, d2] => { results := [.lit (.bool false)], args := [d1, d2] }
  | _ => none }
def TxnReadsWrongFalsely : Prop := txnReadsRow.holds Tryd.pinned (OpenSpec.ofChange txnReadsWrong)

/-- 'palinodelaw12.TxnBack': WHATEVER THE INPUT: true; the input reads as it did. -/
def txnBackSpec : ChangeSpec := { name := "txnBack", fn := fun _ => fun
  | [d] => { results := [.lit (.bool true)], args := [d] }
  | _ => none }
def txnBackRow : OpenClaim := { program := "ytkankogmljifiaadoor", sum := "15836f283a87d37009e967bdaac6147a856f80558b5c1de3b74cd24b47c15577", func := "palinode/palinodelaw12.TxnBack", spec := "txnBack", inPlace := ["internal/abi.NoEscape"], unfollowed := true, recurses := true, named := ["unicode/utf8.first", "unicode/utf8.acceptRanges"], apart := false, laid := [("unicode/utf8.acceptRanges", laid_unicode_utf8_acceptRanges), ("unicode/utf8.first", laid_unicode_utf8_first)] }
def TxnBackSaid : Prop := txnBackRow.holds Tryd.pinned (OpenSpec.ofChange txnBackSpec)

/-- ITS FALSE NEIGHBOUR: 'it returns false'. Refute it at one input. -/
def txnBackWrong : ChangeSpec := { name := "txnBack", fn := fun _ => fun
  | [d] => { results := [.lit (.bool false)], args := [d] }
  | _ => none }
def TxnBackWrongFalsely : Prop := txnBackRow.holds Tryd.pinned (OpenSpec.ofChange txnBackWrong)

/- THE SECOND FORM. 'bulk': how many values and letters a reading holds, each counted each time it is reached (what is shared counts as often as it is met; a slice's spare places count too). A statement '..UptoSaid' is the law's where the arguments, and the package variables that the reading takes, are together of bulk at most 1048576: NARROWER than '..Said'. Prove '..Said' where nothing that the law and all that it calls make is longer than what came in: it says more and counts as full. Else prove '..UptoSaid'. A law counts once. -/
mutual
def uptoBulk {H : Type} : DataW H → Nat
  | .lit (.string bytes) => bytes.length + 1
  | .lit _ => 1
  | .nil => 1
  | .ptr d => uptoBulk d + 1
  | .slice elems spare => uptoBulkAll elems + uptoBulkAll spare + 1
  | .agg parts => uptoBulkAll parts + 1
  | .iface _ d => uptoBulk d + 1
  | .map entries => uptoBulkEntries entries + 1
  | .held _ => 1
def uptoBulkAll {H : Type} : List (DataW H) → Nat
  | [] => 0
  | d :: r => uptoBulk d + uptoBulkAll r
def uptoBulkEntries {H : Type} : List (Lit × DataW H) → Nat
  | [] => 0
  | x :: r => uptoBulkEntry x + uptoBulkEntries r
def uptoBulkEntry {H : Type} : Lit × DataW H → Nat
  | (.string bytes, d) => bytes.length + uptoBulk d + 1
  | (_, d) => uptoBulk d + 1
 end
def uptoSmall : (H : Type) → List (DataW H) → Bool := fun _ ds => decide (uptoBulkAll ds ≤ 1048576)
def OpenSpec.upto (s : _root_.Go.ChangeSpec) : _root_.Go.OpenSpec := { _root_.Go.OpenSpec.ofChange s with cond := some uptoSmall }

/-- 'palinodelaw12.TxnTells', WHERE WHAT IT READS IS OF BULK AT MOST 1048576: true; the input reads as it did. -/
def txnTellsUptoRow : OpenClaim := { program := "ytkankogmljifiaadoor", sum := "15836f283a87d37009e967bdaac6147a856f80558b5c1de3b74cd24b47c15577", func := "palinode/palinodelaw12.TxnTells", spec := "txnTells", inPlace := ["internal/abi.NoEscape"], unfollowed := true, recurses := true, named := ["unicode/utf8.first", "unicode/utf8.acceptRanges"], apart := false, laid := [("unicode/utf8.acceptRanges", laid_unicode_utf8_acceptRanges), ("unicode/utf8.first", laid_unicode_utf8_first)], narrowed := true }
def TxnTellsUptoSaid : Prop := txnTellsUptoRow.holds Tryd.pinned (OpenSpec.upto txnTellsSpec)

/-- 'palinodelaw12.TxnOrder', WHERE WHAT IT READS IS OF BULK AT MOST 1048576: true; the input reads as it did. -/
def txnOrderUptoRow : OpenClaim := { program := "ytkankogmljifiaadoor", sum := "15836f283a87d37009e967bdaac6147a856f80558b5c1de3b74cd24b47c15577", func := "palinode/palinodelaw12.TxnOrder", spec := "txnOrder", inPlace := ["slices.overlaps[palinode/api.Txn]"], unfollowed := true, recurses := true, named := ["unicode/utf8.first", "unicode/utf8.acceptRanges"], apart := false, laid := [("unicode/utf8.acceptRanges", laid_unicode_utf8_acceptRanges), ("unicode/utf8.first", laid_unicode_utf8_first)], narrowed := true }
def TxnOrderUptoSaid : Prop := txnOrderUptoRow.holds Tryd.pinned (OpenSpec.upto txnOrderSpec)

/-- 'palinodelaw12.TxnPlaces', WHERE WHAT IT READS IS OF BULK AT MOST 1048576: true; the input reads as it did. -/
def txnPlacesUptoRow : OpenClaim := { program := "ytkankogmljifiaadoor", sum := "15836f283a87d37009e967bdaac6147a856f80558b5c1de3b74cd24b47c15577", func := "palinode/palinodelaw12.TxnPlaces", spec := "txnPlaces", inPlace := ["slices.overlaps[palinode/api.Txn]"], unfollowed := true, recurses := true, named := ["unicode/utf8.first", "unicode/utf8.acceptRanges"], apart := false, laid := [("unicode/utf8.acceptRanges", laid_unicode_utf8_acceptRanges), ("unicode/utf8.first", laid_unicode_utf8_first)], narrowed := true }
def TxnPlacesUptoSaid : Prop := txnPlacesUptoRow.holds Tryd.pinned (OpenSpec.upto txnPlacesSpec)

/-- 'palinodelaw12.TxnReads', WHERE WHAT IT READS IS OF BULK AT MOST 1048576: true; the input reads as it did. -/
def txnReadsUptoRow : OpenClaim := { program := "ytkankogmljifiaadoor", sum := "15836f283a87d37009e967bdaac6147a856f80558b5c1de3b74cd24b47c15577", func := "palinode/palinodelaw12.TxnReads", spec := "txnReads", unfollowed := true, recurses := true, named := ["unicode/utf8.first", "unicode/utf8.acceptRanges"], apart := false, laid := [("unicode/utf8.acceptRanges", laid_unicode_utf8_acceptRanges), ("unicode/utf8.first", laid_unicode_utf8_first)], narrowed := true }
def TxnReadsUptoSaid : Prop := txnReadsUptoRow.holds Tryd.pinned (OpenSpec.upto txnReadsSpec)

/-- 'palinodelaw12.TxnBack', WHERE WHAT IT READS IS OF BULK AT MOST 1048576: true; the input reads as it did. -/
def txnBackUptoRow : OpenClaim := { program := "ytkankogmljifiaadoor", sum := "15836f283a87d37009e967bdaac6147a856f80558b5c1de3b74cd24b47c15577", func := "palinode/palinodelaw12.TxnBack", spec := "txnBack", inPlace := ["internal/abi.NoEscape"], unfollowed := true, recurses := true, named := ["unicode/utf8.first", "unicode/utf8.acceptRanges"], apart := false, laid := [("unicode/utf8.acceptRanges", laid_unicode_utf8_acceptRanges), ("unicode/utf8.first", laid_unicode_utf8_first)], narrowed := true }
def TxnBackUptoSaid : Prop := txnBackUptoRow.holds Tryd.pinned (OpenSpec.upto txnBackSpec)

end Rows
end Go.Proofs.YtkankogmljifiaaDoor
