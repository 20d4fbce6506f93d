/-
  No cell of these rows narrows 'for every input' (looked for: loops, veiled, ifaces, maps, wideKeys, modest, calm, conditions, laid).
  DERIVED. THE GIVEN ROWS OF THIS SEAT. 4 by the template 'for every input the law returns true; each argument reads behind the call as it read before'; 0 by the template 'total and deterministic' (their statements: YteombjhaanohiaaTotals.lean).
  GIVEN WITH THE SEED: the statements are not yours to turn. If you find one false, say at which input.
  Laid BY PROGRAM, IN A SANDBOX (cutbox-rows.mjs): the forced cells as the released guide's own fill.sh prints them over the translation bf4e431a9d890501… (all of the seat's roots in one cut). By AI agents, Wed Nov 11 2026. No macro, syntax, notation, axiom, sorry.
-/
import Derived.Test.YteombjhaanohiaaChecked
import GoSem.Claim
import GoSem.ClaimJoined
import GoSem.ClaimMapViews
import Derived.JoinedTies
import Derived.KernelRfl
namespace Go.Proofs.Yteombjhaanohiaa
/- THE CELL 'sum', in the pinned program and in every row, IS THE sha256 OF THE DUMP (.gsa) THAT YteombjhaanohiaaProg.lean LOADS. Nothing in Lean hashes anything: it is a label: what it is worth is what the hold of that sum in a sandbox is worth. -/
noncomputable def Try.pinned : Pinned := { name := "yteombjhaanohiaa", sum := "bf4e431a9d890501177d6d3b657b93480b0cde5b1372253058a24877c181818b", checked := Try.checked }
namespace Rows
def none {H : Type} : Left H := { results := [], args := [] }

/-- 'palinodelaw07.MatrixRises': WHATEVER THE INPUT: true; the input reads as it did. -/
def matrixRisesSpec : ChangeSpec := { name := "matrixRises", fn := fun _ => fun
  | [d1, d2, d3, d4, d5] => { results := [.lit (.bool true)], args := [d1, d2, d3, d4, d5] }
  | _ => none }
def matrixRisesRow : OpenClaim := { program := "yteombjhaanohiaa", sum := "bf4e431a9d890501177d6d3b657b93480b0cde5b1372253058a24877c181818b", func := "palinode/palinodelaw07.MatrixRises", spec := "matrixRises", unfollowed := true, recurses := true, apart := false }
def MatrixRisesSaid : Prop := matrixRisesRow.holds Try.pinned (OpenSpec.ofChange matrixRisesSpec)

/-- ITS FALSE NEIGHBOUR: 'it returns false'. Refute it at one input. -/
def matrixRisesWrong : ChangeSpec := { name := "matrixRises", fn := fun _ => fun
  | [d1, d2, d3, d4, d5] => { results := [.lit (.bool false)], args := [d1, d2, d3, d4, d5] }
  | _ => none }
def MatrixRisesWrongFalsely : Prop := matrixRisesRow.holds Try.pinned (OpenSpec.ofChange matrixRisesWrong)

/-- 'palinodelaw07.MatrixStable': WHATEVER THE INPUT: true; the input reads as it did. -/
def matrixStableSpec : ChangeSpec := { name := "matrixStable", fn := fun _ => fun
  | [d1, d2, d3] => { results := [.lit (.bool true)], args := [d1, d2, d3] }
  | _ => none }
def matrixStableRow : OpenClaim := { program := "yteombjhaanohiaa", sum := "bf4e431a9d890501177d6d3b657b93480b0cde5b1372253058a24877c181818b", func := "palinode/palinodelaw07.MatrixStable", spec := "matrixStable", unfollowed := true, recurses := true, apart := false }
def MatrixStableSaid : Prop := matrixStableRow.holds Try.pinned (OpenSpec.ofChange matrixStableSpec)

/-- ITS FALSE NEIGHBOUR: 'it returns false'. Refute it at one input. -/
def matrixStableWrong : ChangeSpec := { name := "matrixStable", fn := fun _ => fun
  | [d1, d2, d3] => { results := [.lit (.bool false)], args := [d1, d2, d3] }
  | _ => none }
def MatrixStableWrongFalsely : Prop := matrixStableRow.holds Try.pinned (OpenSpec.ofChange matrixStableWrong)

/-- 'palinodelaw07.MatrixTells': WHATEVER THE INPUT: true; the input reads as it did. -/
def matrixTellsSpec : ChangeSpec := { name := "matrixTells", fn := fun _ => fun
  | [d1, d2, d3, d4, d5] => { results := [.lit (.bool true)], args := [d1, d2, d3, d4, d5] }
  | _ => none }
def matrixTellsRow : OpenClaim := { program := "yteombjhaanohiaa", sum := "bf4e431a9d890501177d6d3b657b93480b0cde5b1372253058a24877c181818b", func := "palinode/palinodelaw07.MatrixTells", spec := "matrixTells", unfollowed := true, recurses := true, apart := false }
def MatrixTellsSaid : Prop := matrixTellsRow.holds Try.pinned (OpenSpec.ofChange matrixTellsSpec)

/-- ITS FALSE NEIGHBOUR: 'it returns false'. Refute it at one input. -/
def matrixTellsWrong : ChangeSpec := { name := "matrixTells", fn := fun _ => fun
  | [d1, d2, d3, d4, d5] => { results := [.lit (.bool false)], args := [d1, d2, d3, d4, d5] }
  | _ => none }
def MatrixTellsWrongFalsely : Prop := matrixTellsRow.holds Try.pinned (OpenSpec.ofChange matrixTellsWrong)

/-- 'palinodelaw07.MatrixJoins': WHATEVER THE INPUT: true; the input reads as it did. -/
def matrixJoinsSpec : ChangeSpec := { name := "matrixJoins", fn := fun _ => fun
  | [d1, d2, d3, d4] => { results := [.lit (.bool true)], args := [d1, d2, d3, d4] }
  | _ => none }
def matrixJoinsRow : OpenClaim := { program := "yteombjhaanohiaa", sum := "bf4e431a9d890501177d6d3b657b93480b0cde5b1372253058a24877c181818b", func := "palinode/palinodelaw07.MatrixJoins", spec := "matrixJoins", unfollowed := true, recurses := true, apart := false }
def MatrixJoinsSaid : Prop := matrixJoinsRow.holds Try.pinned (OpenSpec.ofChange matrixJoinsSpec)

/-- ITS FALSE NEIGHBOUR: 'it returns false'. Refute it at one input. -/
def matrixJoinsWrong : ChangeSpec := { name := "matrixJoins", fn := fun _ => fun
  | [d1, d2, d3, d4] => { results := [.lit (.bool false)], args := [d1, d2, d3, d4] }
  | _ => none }
def MatrixJoinsWrongFalsely : Prop := matrixJoinsRow.holds Try.pinned (OpenSpec.ofChange matrixJoinsWrong)

/- THE SECOND FORM. 'bulk': how many values and letters a reading holds, each counted each time it is reached (what is shared counts as often as it is met; a slice's spare places count too). A statement '..UptoSaid' is the law's where the arguments, and the package variables that the reading takes, are together of bulk at most 1048576: NARROWER than '..Said'. Prove '..Said' where nothing that the law and all that it calls make is longer than what came in: it says more and counts as full. Else prove '..UptoSaid'. A law counts once. -/
mutual
def uptoBulk {H : Type} : DataW H → Nat
  | .lit (.string bytes) => bytes.length + 1
  | .lit _ => 1
  | .nil => 1
  | .ptr d => uptoBulk d + 1
  | .slice elems spare => uptoBulkAll elems + uptoBulkAll spare + 1
  | .agg parts => uptoBulkAll parts + 1
  | .iface _ d => uptoBulk d + 1
  | .map entries => uptoBulkEntries entries + 1
  | .held _ => 1
def uptoBulkAll {H : Type} : List (DataW H) → Nat
  | [] => 0
  | d :: r => uptoBulk d + uptoBulkAll r
def uptoBulkEntries {H : Type} : List (Lit × DataW H) → Nat
  | [] => 0
  | x :: r => uptoBulkEntry x + uptoBulkEntries r
def uptoBulkEntry {H : Type} : Lit × DataW H → Nat
  | (.string bytes, d) => bytes.length + uptoBulk d + 1
  | (_, d) => uptoBulk d + 1
 end
def uptoSmall : (H : Type) → List (DataW H) → Bool := fun _ ds => decide (uptoBulkAll ds ≤ 1048576)
def OpenSpec.upto (s : _root_.Go.ChangeSpec) : _root_.Go.OpenSpec := { _root_.Go.OpenSpec.ofChange s with cond := some uptoSmall }

/-- 'palinodelaw07.MatrixRises', WHERE WHAT IT READS IS OF BULK AT MOST 1048576: true; the input reads as it did. -/
def matrixRisesUptoRow : OpenClaim := { program := "yteombjhaanohiaa", sum := "bf4e431a9d890501177d6d3b657b93480b0cde5b1372253058a24877c181818b", func := "palinode/palinodelaw07.MatrixRises", spec := "matrixRises", unfollowed := true, recurses := true, apart := false, narrowed := true }
def MatrixRisesUptoSaid : Prop := matrixRisesUptoRow.holds Try.pinned (OpenSpec.upto matrixRisesSpec)

/-- 'palinodelaw07.MatrixStable', WHERE WHAT IT READS IS OF BULK AT MOST 1048576: true; the input reads as it did. -/
def matrixStableUptoRow : OpenClaim := { program := "yteombjhaanohiaa", sum := "bf4e431a9d890501177d6d3b657b93480b0cde5b1372253058a24877c181818b", func := "palinode/palinodelaw07.MatrixStable", spec := "matrixStable", unfollowed := true, recurses := true, apart := false, narrowed := true }
def MatrixStableUptoSaid : Prop := matrixStableUptoRow.holds Try.pinned (OpenSpec.upto matrixStableSpec)

/-- 'palinodelaw07.MatrixTells', WHERE WHAT IT READS IS OF BULK AT MOST 1048576: true; the input reads as it did. -/
def matrixTellsUptoRow : OpenClaim := { program := "yteombjhaanohiaa", sum := "bf4e431a9d890501177d6d3b657b93480b0cde5b1372253058a24877c181818b", func := "palinode/palinodelaw07.MatrixTells", spec := "matrixTells", unfollowed := true, recurses := true, apart := false, narrowed := true }
def MatrixTellsUptoSaid : Prop := matrixTellsUptoRow.holds Try.pinned (OpenSpec.upto matrixTellsSpec)

/-- 'palinodelaw07.MatrixJoins', WHERE WHAT IT READS IS OF BULK AT MOST 1048576: true; the input reads as it did. -/
def matrixJoinsUptoRow : OpenClaim := { program := "yteombjhaanohiaa", sum := "bf4e431a9d890501177d6d3b657b93480b0cde5b1372253058a24877c181818b", func := "palinode/palinodelaw07.MatrixJoins", spec := "matrixJoins", unfollowed := true, recurses := true, apart := false, narrowed := true }
def MatrixJoinsUptoSaid : Prop := matrixJoinsUptoRow.holds Try.pinned (OpenSpec.upto matrixJoinsSpec)

end Rows
end Go.Proofs.Yteombjhaanohiaa
