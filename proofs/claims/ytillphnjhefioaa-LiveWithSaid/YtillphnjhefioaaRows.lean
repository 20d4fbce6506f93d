/-
  No cell of these rows narrows 'for every input' (looked for: loops, veiled, ifaces, maps, wideKeys, modest, calm, conditions, laid).
  DERIVED. THE GIVEN ROWS OF THIS SEAT. 5 by the template 'for every input the law returns true; each argument reads behind the call as it read before'; 0 by the template 'total and deterministic' (their statements: YtillphnjhefioaaTotals.lean).
  GIVEN WITH THE SEED: the statements are not yours to turn. If you find one false, say at which input.
  Laid BY PROGRAM, IN A SANDBOX (cutbox-rows.mjs): the forced cells as the released guide's own fill.sh prints them over the translation 8b04e237511ad038… (all of the seat's roots in one cut). By AI agents, Wed Nov 11 2026. No macro, syntax, notation, axiom, sorry.
-/
import Derived.Test.YtillphnjhefioaaChecked
import GoSem.Claim
import GoSem.ClaimJoined
import GoSem.ClaimMapViews
import Derived.JoinedTies
import Derived.KernelRfl
namespace Go.Proofs.Ytillphnjhefioaa
/- THE CELL 'sum', in the pinned program and in every row, IS THE sha256 OF THE DUMP (.gsa) THAT YtillphnjhefioaaProg.lean LOADS. Nothing in Lean hashes anything: it is a label: what it is worth is what the hold of that sum in a sandbox is worth. -/
noncomputable def Try.pinned : Pinned := { name := "ytillphnjhefioaa", sum := "8b04e237511ad0386073ab4c86130b4a5346557f33d40fe3eaa8a56b93df9fd2", checked := Try.checked }
namespace Rows
def none {H : Type} : Left H := { results := [], args := [] }

/-- 'palinodelaw13.LiveAgain': WHATEVER THE INPUT: true; the input reads as it did. -/
def liveAgainSpec : ChangeSpec := { name := "liveAgain", fn := fun _ => fun
  | [d1, d2, d3] => { results := [.lit (.bool true)], args := [d1, d2, d3] }
  | _ => none }
def liveAgainRow : OpenClaim := { program := "ytillphnjhefioaa", sum := "8b04e237511ad0386073ab4c86130b4a5346557f33d40fe3eaa8a56b93df9fd2", func := "palinode/palinodelaw13.LiveAgain", spec := "liveAgain", unfollowed := true, recurses := true, plainKeys := false, apart := false }
def LiveAgainSaid : Prop := liveAgainRow.holds Try.pinned (OpenSpec.ofChange liveAgainSpec)

/-- ITS FALSE NEIGHBOUR: 'it returns false'. Refute it at one input. -/
def liveAgainWrong : ChangeSpec := { name := "liveAgain", fn := fun _ => fun
  | [d1, d2, d3] => { results := [.lit (.bool false)], args := [d1, d2, d3] }
  | _ => none }
def LiveAgainWrongFalsely : Prop := liveAgainRow.holds Try.pinned (OpenSpec.ofChange liveAgainWrong)

/-- 'palinodelaw13.LiveUndone': WHATEVER THE INPUT: true; the input reads as it did. -/
def liveUndoneSpec : ChangeSpec := { name := "liveUndone", fn := fun _ => fun
  | [d1, d2, d3] => { results := [.lit (.bool true)], args := [d1, d2, d3] }
  | _ => none }
def liveUndoneRow : OpenClaim := { program := "ytillphnjhefioaa", sum := "8b04e237511ad0386073ab4c86130b4a5346557f33d40fe3eaa8a56b93df9fd2", func := "palinode/palinodelaw13.LiveUndone", spec := "liveUndone", unfollowed := true, recurses := true, plainKeys := false, apart := false }
def LiveUndoneSaid : Prop := liveUndoneRow.holds Try.pinned (OpenSpec.ofChange liveUndoneSpec)

/-- ITS FALSE NEIGHBOUR: 'it returns false'. Refute it at one input. -/
def liveUndoneWrong : ChangeSpec := { name := "liveUndone", fn := fun _ => fun
  | [d1, d2, d3] => { results := [.lit (.bool false)], args := [d1, d2, d3] }
  | _ => none }
def LiveUndoneWrongFalsely : Prop := liveUndoneRow.holds Try.pinned (OpenSpec.ofChange liveUndoneWrong)

/-- 'palinodelaw13.LiveTells': WHATEVER THE INPUT: true; the input reads as it did. -/
def liveTellsSpec : ChangeSpec := { name := "liveTells", fn := fun _ => fun
  | [d1, d2, d3, d4] => { results := [.lit (.bool true)], args := [d1, d2, d3, d4] }
  | _ => none }
def liveTellsRow : OpenClaim := { program := "ytillphnjhefioaa", sum := "8b04e237511ad0386073ab4c86130b4a5346557f33d40fe3eaa8a56b93df9fd2", func := "palinode/palinodelaw13.LiveTells", spec := "liveTells", unfollowed := true, recurses := true, plainKeys := false, apart := false }
def LiveTellsSaid : Prop := liveTellsRow.holds Try.pinned (OpenSpec.ofChange liveTellsSpec)

/-- ITS FALSE NEIGHBOUR: 'it returns false'. Refute it at one input. -/
def liveTellsWrong : ChangeSpec := { name := "liveTells", fn := fun _ => fun
  | [d1, d2, d3, d4] => { results := [.lit (.bool false)], args := [d1, d2, d3, d4] }
  | _ => none }
def LiveTellsWrongFalsely : Prop := liveTellsRow.holds Try.pinned (OpenSpec.ofChange liveTellsWrong)

/-- 'palinodelaw13.LiveWith': WHATEVER THE INPUT: true; the input reads as it did. -/
def liveWithSpec : ChangeSpec := { name := "liveWith", fn := fun _ => fun
  | [d1, d2, d3] => { results := [.lit (.bool true)], args := [d1, d2, d3] }
  | _ => none }
def liveWithRow : OpenClaim := { program := "ytillphnjhefioaa", sum := "8b04e237511ad0386073ab4c86130b4a5346557f33d40fe3eaa8a56b93df9fd2", func := "palinode/palinodelaw13.LiveWith", spec := "liveWith", inPlace := ["slices.overlaps[palinode/api.Txn]"], unfollowed := true, recurses := true, plainKeys := false, apart := false }
def LiveWithSaid : Prop := liveWithRow.holds Try.pinned (OpenSpec.ofChange liveWithSpec)

/-- ITS FALSE NEIGHBOUR: 'it returns false'. Refute it at one input. -/
def liveWithWrong : ChangeSpec := { name := "liveWith", fn := fun _ => fun
  | [d1, d2, d3] => { results := [.lit (.bool false)], args := [d1, d2, d3] }
  | _ => none }
def LiveWithWrongFalsely : Prop := liveWithRow.holds Try.pinned (OpenSpec.ofChange liveWithWrong)

/-- 'palinodelaw13.LiveTwice': WHATEVER THE INPUT: true; the input reads as it did. -/
def liveTwiceSpec : ChangeSpec := { name := "liveTwice", fn := fun _ => fun
  | [d1, d2, d3] => { results := [.lit (.bool true)], args := [d1, d2, d3] }
  | _ => none }
def liveTwiceRow : OpenClaim := { program := "ytillphnjhefioaa", sum := "8b04e237511ad0386073ab4c86130b4a5346557f33d40fe3eaa8a56b93df9fd2", func := "palinode/palinodelaw13.LiveTwice", spec := "liveTwice", inPlace := ["slices.overlaps[palinode/api.Undo]"], unfollowed := true, recurses := true, plainKeys := false, apart := false }
def LiveTwiceSaid : Prop := liveTwiceRow.holds Try.pinned (OpenSpec.ofChange liveTwiceSpec)

/-- ITS FALSE NEIGHBOUR: 'it returns false'. Refute it at one input. -/
def liveTwiceWrong : ChangeSpec := { name := "liveTwice", fn := fun _ => fun
  | [d1, d2, d3] => { results := [.lit (.bool false)], args := [d1, d2, d3] }
  | _ => none }
def LiveTwiceWrongFalsely : Prop := liveTwiceRow.holds Try.pinned (OpenSpec.ofChange liveTwiceWrong)

/- THE SECOND FORM. 'bulk': how many values and letters a reading holds, each counted each time it is reached (what is shared counts as often as it is met; a slice's spare places count too). A statement '..UptoSaid' is the law's where the arguments, and the package variables that the reading takes, are together of bulk at most 1048576: NARROWER than '..Said'. Prove '..Said' where nothing that the law and all that it calls make is longer than what came in: it says more and counts as full. Else prove '..UptoSaid'. A law counts once. -/
mutual
def uptoBulk {H : Type} : DataW H → Nat
  | .lit (.string bytes) => bytes.length + 1
  | .lit _ => 1
  | .nil => 1
  | .ptr d => uptoBulk d + 1
  | .slice elems spare => uptoBulkAll elems + uptoBulkAll spare + 1
  | .agg parts => uptoBulkAll parts + 1
  | .iface _ d => uptoBulk d + 1
  | .map entries => uptoBulkEntries entries + 1
  | .held _ => 1
def uptoBulkAll {H : Type} : List (DataW H) → Nat
  | [] => 0
  | d :: r => uptoBulk d + uptoBulkAll r
def uptoBulkEntries {H : Type} : List (Lit × DataW H) → Nat
  | [] => 0
  | x :: r => uptoBulkEntry x + uptoBulkEntries r
def uptoBulkEntry {H : Type} : Lit × DataW H → Nat
  | (.string bytes, d) => bytes.length + uptoBulk d + 1
  | (_, d) => uptoBulk d + 1
 end
def uptoSmall : (H : Type) → List (DataW H) → Bool := fun _ ds => decide (uptoBulkAll ds ≤ 1048576)
def OpenSpec.upto (s : _root_.Go.ChangeSpec) : _root_.Go.OpenSpec := { _root_.Go.OpenSpec.ofChange s with cond := some uptoSmall }

/-- 'palinodelaw13.LiveAgain', WHERE WHAT IT READS IS OF BULK AT MOST 1048576: true; the input reads as it did. -/
def liveAgainUptoRow : OpenClaim := { program := "ytillphnjhefioaa", sum := "8b04e237511ad0386073ab4c86130b4a5346557f33d40fe3eaa8a56b93df9fd2", func := "palinode/palinodelaw13.LiveAgain", spec := "liveAgain", unfollowed := true, recurses := true, plainKeys := false, apart := false, narrowed := true }
def LiveAgainUptoSaid : Prop := liveAgainUptoRow.holds Try.pinned (OpenSpec.upto liveAgainSpec)

/-- 'palinodelaw13.LiveUndone', WHERE WHAT IT READS IS OF BULK AT MOST 1048576: true; the input reads as it did. -/
def liveUndoneUptoRow : OpenClaim := { program := "ytillphnjhefioaa", sum := "8b04e237511ad0386073ab4c86130b4a5346557f33d40fe3eaa8a56b93df9fd2", func := "palinode/palinodelaw13.LiveUndone", spec := "liveUndone", unfollowed := true, recurses := true, plainKeys := false, apart := false, narrowed := true }
def LiveUndoneUptoSaid : Prop := liveUndoneUptoRow.holds Try.pinned (OpenSpec.upto liveUndoneSpec)

/-- 'palinodelaw13.LiveTells', WHERE WHAT IT READS IS OF BULK AT MOST 1048576: true; the input reads as it did. -/
def liveTellsUptoRow : OpenClaim := { program := "ytillphnjhefioaa", sum := "8b04e237511ad0386073ab4c86130b4a5346557f33d40fe3eaa8a56b93df9fd2", func := "palinode/palinodelaw13.LiveTells", spec := "liveTells", unfollowed := true, recurses := true, plainKeys := false, apart := false, narrowed := true }
def LiveTellsUptoSaid : Prop := liveTellsUptoRow.holds Try.pinned (OpenSpec.upto liveTellsSpec)

/-- 'palinodelaw13.LiveWith', WHERE WHAT IT READS IS OF BULK AT MOST 1048576: true; the input reads as it did. -/
def liveWithUptoRow : OpenClaim := { program := "ytillphnjhefioaa", sum := "8b04e237511ad0386073ab4c86130b4a5346557f33d40fe3eaa8a56b93df9fd2", func := "palinode/palinodelaw13.LiveWith", spec := "liveWith", inPlace := ["slices.overlaps[palinode/api.Txn]"], unfollowed := true, recurses := true, plainKeys := false, apart := false, narrowed := true }
def LiveWithUptoSaid : Prop := liveWithUptoRow.holds Try.pinned (OpenSpec.upto liveWithSpec)

/-- 'palinodelaw13.LiveTwice', WHERE WHAT IT READS IS OF BULK AT MOST 1048576: true; the input reads as it did. -/
def liveTwiceUptoRow : OpenClaim := { program := "ytillphnjhefioaa", sum := "8b04e237511ad0386073ab4c86130b4a5346557f33d40fe3eaa8a56b93df9fd2", func := "palinode/palinodelaw13.LiveTwice", spec := "liveTwice", inPlace := ["slices.overlaps[palinode/api.Undo]"], unfollowed := true, recurses := true, plainKeys := false, apart := false, narrowed := true }
def LiveTwiceUptoSaid : Prop := liveTwiceUptoRow.holds Try.pinned (OpenSpec.upto liveTwiceSpec)

end Rows
end Go.Proofs.Ytillphnjhefioaa
