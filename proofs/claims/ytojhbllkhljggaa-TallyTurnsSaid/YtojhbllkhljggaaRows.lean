/-
  No cell of these rows narrows 'for every input' (looked for: loops, veiled, ifaces, maps, wideKeys, modest, calm, conditions, laid).
  DERIVED. THE GIVEN ROWS OF THIS SEAT. 5 by the template 'for every input the law returns true; each argument reads behind the call as it read before'; 0 by the template 'total and deterministic' (their statements: YtojhbllkhljggaaTotals.lean).
  GIVEN WITH THE SEED: the statements are not yours to turn. If you find one false, say at which input.
  Laid BY PROGRAM, IN A SANDBOX (cutbox-rows.mjs): the forced cells as the released guide's own fill.sh prints them over the translation dd16eb449d3ce9cf… (all of the seat's roots in one cut). By AI agents, Wed Nov 11 2026. No macro, syntax, notation, axiom, sorry.
-/
import Derived.Test.YtojhbllkhljggaaChecked
import GoSem.Claim
import GoSem.ClaimJoined
import GoSem.ClaimMapViews
import Derived.JoinedTies
import Derived.KernelRfl
namespace Go.Proofs.Ytojhbllkhljggaa
/- THE CELL 'sum', in the pinned program and in every row, IS THE sha256 OF THE DUMP (.gsa) THAT YtojhbllkhljggaaProg.lean LOADS. Nothing in Lean hashes anything: it is a label: what it is worth is what the hold of that sum in a sandbox is worth. -/
noncomputable def Try.pinned : Pinned := { name := "ytojhbllkhljggaa", sum := "dd16eb449d3ce9cf49fd6b0f22969fed2733e978804c6256b82b83c5d5471d5c", checked := Try.checked }
namespace Rows
def none {H : Type} : Left H := { results := [], args := [] }

/-- 'palinodelaw08.TallyTurns': WHATEVER THE INPUT: true; the input reads as it did. -/
def tallyTurnsSpec : ChangeSpec := { name := "tallyTurns", fn := fun _ => fun
  | [d1, d2, d3] => { results := [.lit (.bool true)], args := [d1, d2, d3] }
  | _ => none }
def tallyTurnsRow : OpenClaim := { program := "ytojhbllkhljggaa", sum := "dd16eb449d3ce9cf49fd6b0f22969fed2733e978804c6256b82b83c5d5471d5c", func := "palinode/palinodelaw08.TallyTurns", spec := "tallyTurns", inPlace := ["slices.overlaps[palinode/api.Undo]"], unfollowed := true, recurses := true, apart := false }
def TallyTurnsSaid : Prop := tallyTurnsRow.holds Try.pinned (OpenSpec.ofChange tallyTurnsSpec)

/-- ITS FALSE NEIGHBOUR: 'it returns false'. Refute it at one input. -/
def tallyTurnsWrong : ChangeSpec := { name := "tallyTurns", fn := fun _ => fun
  | [d1, d2, d3] => { results := [.lit (.bool false)], args := [d1, d2, d3] }
  | _ => none }
def TallyTurnsWrongFalsely : Prop := tallyTurnsRow.holds Try.pinned (OpenSpec.ofChange tallyTurnsWrong)

/-- 'palinodelaw08.TallyTells': WHATEVER THE INPUT: true; the input reads as it did. -/
def tallyTellsSpec : ChangeSpec := { name := "tallyTells", fn := fun _ => fun
  | [d1, d2] => { results := [.lit (.bool true)], args := [d1, d2] }
  | _ => none }
def tallyTellsRow : OpenClaim := { program := "ytojhbllkhljggaa", sum := "dd16eb449d3ce9cf49fd6b0f22969fed2733e978804c6256b82b83c5d5471d5c", func := "palinode/palinodelaw08.TallyTells", spec := "tallyTells", inPlace := ["slices.overlaps[palinode/api.Undo]"], unfollowed := true, recurses := true, apart := false }
def TallyTellsSaid : Prop := tallyTellsRow.holds Try.pinned (OpenSpec.ofChange tallyTellsSpec)

/-- ITS FALSE NEIGHBOUR: 'it returns false'. Refute it at one input. -/
def tallyTellsWrong : ChangeSpec := { name := "tallyTells", fn := fun _ => fun
  | [d1, d2] => { results := [.lit (.bool false)], args := [d1, d2] }
  | _ => none }
def TallyTellsWrongFalsely : Prop := tallyTellsRow.holds Try.pinned (OpenSpec.ofChange tallyTellsWrong)

/-- 'palinodelaw08.TallyLattice': WHATEVER THE INPUT: true; the input reads as it did. -/
def tallyLatticeSpec : ChangeSpec := { name := "tallyLattice", fn := fun _ => fun
  | [d1, d2, d3] => { results := [.lit (.bool true)], args := [d1, d2, d3] }
  | _ => none }
def tallyLatticeRow : OpenClaim := { program := "ytojhbllkhljggaa", sum := "dd16eb449d3ce9cf49fd6b0f22969fed2733e978804c6256b82b83c5d5471d5c", func := "palinode/palinodelaw08.TallyLattice", spec := "tallyLattice", inPlace := ["slices.overlaps[palinode/api.Undo]"], unfollowed := true, recurses := true, apart := false }
def TallyLatticeSaid : Prop := tallyLatticeRow.holds Try.pinned (OpenSpec.ofChange tallyLatticeSpec)

/-- ITS FALSE NEIGHBOUR: 'it returns false'. Refute it at one input. -/
def tallyLatticeWrong : ChangeSpec := { name := "tallyLattice", fn := fun _ => fun
  | [d1, d2, d3] => { results := [.lit (.bool false)], args := [d1, d2, d3] }
  | _ => none }
def TallyLatticeWrongFalsely : Prop := tallyLatticeRow.holds Try.pinned (OpenSpec.ofChange tallyLatticeWrong)

/-- 'palinodelaw08.TallyJoins': WHATEVER THE INPUT: true; the input reads as it did. -/
def tallyJoinsSpec : ChangeSpec := { name := "tallyJoins", fn := fun _ => fun
  | [d1, d2] => { results := [.lit (.bool true)], args := [d1, d2] }
  | _ => none }
def tallyJoinsRow : OpenClaim := { program := "ytojhbllkhljggaa", sum := "dd16eb449d3ce9cf49fd6b0f22969fed2733e978804c6256b82b83c5d5471d5c", func := "palinode/palinodelaw08.TallyJoins", spec := "tallyJoins", inPlace := ["slices.overlaps[palinode/api.Undo]"], unfollowed := true, recurses := true, apart := false }
def TallyJoinsSaid : Prop := tallyJoinsRow.holds Try.pinned (OpenSpec.ofChange tallyJoinsSpec)

/-- ITS FALSE NEIGHBOUR: 'it returns false'. Refute it at one input. -/
def tallyJoinsWrong : ChangeSpec := { name := "tallyJoins", fn := fun _ => fun
  | [d1, d2] => { results := [.lit (.bool false)], args := [d1, d2] }
  | _ => none }
def TallyJoinsWrongFalsely : Prop := tallyJoinsRow.holds Try.pinned (OpenSpec.ofChange tallyJoinsWrong)

/-- 'palinodelaw08.TallyDeltas': WHATEVER THE INPUT: true; the input reads as it did. -/
def tallyDeltasSpec : ChangeSpec := { name := "tallyDeltas", fn := fun _ => fun
  | [d1, d2, d3] => { results := [.lit (.bool true)], args := [d1, d2, d3] }
  | _ => none }
def tallyDeltasRow : OpenClaim := { program := "ytojhbllkhljggaa", sum := "dd16eb449d3ce9cf49fd6b0f22969fed2733e978804c6256b82b83c5d5471d5c", func := "palinode/palinodelaw08.TallyDeltas", spec := "tallyDeltas", inPlace := ["slices.overlaps[palinode/api.Undo]"], unfollowed := true, recurses := true, apart := false }
def TallyDeltasSaid : Prop := tallyDeltasRow.holds Try.pinned (OpenSpec.ofChange tallyDeltasSpec)

/-- ITS FALSE NEIGHBOUR: 'it returns false'. Refute it at one input. -/
def tallyDeltasWrong : ChangeSpec := { name := "tallyDeltas", fn := fun _ => fun
  | [d1, d2, d3] => { results := [.lit (.bool false)], args := [d1, d2, d3] }
  | _ => none }
def TallyDeltasWrongFalsely : Prop := tallyDeltasRow.holds Try.pinned (OpenSpec.ofChange tallyDeltasWrong)

/- THE SECOND FORM. 'bulk': how many values and letters a reading holds, each counted each time it is reached (what is shared counts as often as it is met; a slice's spare places count too). A statement '..UptoSaid' is the law's where the arguments, and the package variables that the reading takes, are together of bulk at most 1048576: NARROWER than '..Said'. Prove '..Said' where nothing that the law and all that it calls make is longer than what came in: it says more and counts as full. Else prove '..UptoSaid'. A law counts once. -/
mutual
def uptoBulk {H : Type} : DataW H → Nat
  | .lit (.string bytes) => bytes.length + 1
  | .lit _ => 1
  | .nil => 1
  | .ptr d => uptoBulk d + 1
  | .slice elems spare => uptoBulkAll elems + uptoBulkAll spare + 1
  | .agg parts => uptoBulkAll parts + 1
  | .iface _ d => uptoBulk d + 1
  | .map entries => uptoBulkEntries entries + 1
  | .held _ => 1
def uptoBulkAll {H : Type} : List (DataW H) → Nat
  | [] => 0
  | d :: r => uptoBulk d + uptoBulkAll r
def uptoBulkEntries {H : Type} : List (Lit × DataW H) → Nat
  | [] => 0
  | x :: r => uptoBulkEntry x + uptoBulkEntries r
def uptoBulkEntry {H : Type} : Lit × DataW H → Nat
  | (.string bytes, d) => bytes.length + uptoBulk d + 1
  | (_, d) => uptoBulk d + 1
 end
def uptoSmall : (H : Type) → List (DataW H) → Bool := fun _ ds => decide (uptoBulkAll ds ≤ 1048576)
def OpenSpec.upto (s : _root_.Go.ChangeSpec) : _root_.Go.OpenSpec := { _root_.Go.OpenSpec.ofChange s with cond := some uptoSmall }

/-- 'palinodelaw08.TallyTurns', WHERE WHAT IT READS IS OF BULK AT MOST 1048576: true; the input reads as it did. -/
def tallyTurnsUptoRow : OpenClaim := { program := "ytojhbllkhljggaa", sum := "dd16eb449d3ce9cf49fd6b0f22969fed2733e978804c6256b82b83c5d5471d5c", func := "palinode/palinodelaw08.TallyTurns", spec := "tallyTurns", inPlace := ["slices.overlaps[palinode/api.Undo]"], unfollowed := true, recurses := true, apart := false, narrowed := true }
def TallyTurnsUptoSaid : Prop := tallyTurnsUptoRow.holds Try.pinned (OpenSpec.upto tallyTurnsSpec)

/-- 'palinodelaw08.TallyTells', WHERE WHAT IT READS IS OF BULK AT MOST 1048576: true; the input reads as it did. -/
def tallyTellsUptoRow : OpenClaim := { program := "ytojhbllkhljggaa", sum := "dd16eb449d3ce9cf49fd6b0f22969fed2733e978804c6256b82b83c5d5471d5c", func := "palinode/palinodelaw08.TallyTells", spec := "tallyTells", inPlace := ["slices.overlaps[palinode/api.Undo]"], unfollowed := true, recurses := true, apart := false, narrowed := true }
def TallyTellsUptoSaid : Prop := tallyTellsUptoRow.holds Try.pinned (OpenSpec.upto tallyTellsSpec)

/-- 'palinodelaw08.TallyLattice', WHERE WHAT IT READS IS OF BULK AT MOST 1048576: true; the input reads as it did. -/
def tallyLatticeUptoRow : OpenClaim := { program := "ytojhbllkhljggaa", sum := "dd16eb449d3ce9cf49fd6b0f22969fed2733e978804c6256b82b83c5d5471d5c", func := "palinode/palinodelaw08.TallyLattice", spec := "tallyLattice", inPlace := ["slices.overlaps[palinode/api.Undo]"], unfollowed := true, recurses := true, apart := false, narrowed := true }
def TallyLatticeUptoSaid : Prop := tallyLatticeUptoRow.holds Try.pinned (OpenSpec.upto tallyLatticeSpec)

/-- 'palinodelaw08.TallyJoins', WHERE WHAT IT READS IS OF BULK AT MOST 1048576: true; the input reads as it did. -/
def tallyJoinsUptoRow : OpenClaim := { program := "ytojhbllkhljggaa", sum := "dd16eb449d3ce9cf49fd6b0f22969fed2733e978804c6256b82b83c5d5471d5c", func := "palinode/palinodelaw08.TallyJoins", spec := "tallyJoins", inPlace := ["slices.overlaps[palinode/api.Undo]"], unfollowed := true, recurses := true, apart := false, narrowed := true }
def TallyJoinsUptoSaid : Prop := tallyJoinsUptoRow.holds Try.pinned (OpenSpec.upto tallyJoinsSpec)

/-- 'palinodelaw08.TallyDeltas', WHERE WHAT IT READS IS OF BULK AT MOST 1048576: true; the input reads as it did. -/
def tallyDeltasUptoRow : OpenClaim := { program := "ytojhbllkhljggaa", sum := "dd16eb449d3ce9cf49fd6b0f22969fed2733e978804c6256b82b83c5d5471d5c", func := "palinode/palinodelaw08.TallyDeltas", spec := "tallyDeltas", inPlace := ["slices.overlaps[palinode/api.Undo]"], unfollowed := true, recurses := true, apart := false, narrowed := true }
def TallyDeltasUptoSaid : Prop := tallyDeltasUptoRow.holds Try.pinned (OpenSpec.upto tallyDeltasSpec)

end Rows
end Go.Proofs.Ytojhbllkhljggaa
