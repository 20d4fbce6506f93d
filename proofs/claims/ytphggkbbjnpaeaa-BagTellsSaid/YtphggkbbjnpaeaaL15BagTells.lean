/- Proved: whatever comes in, the law BagTells of chapter 15 returns true, and the input reads as it did (of any transactions, and any counts, a bag's values, which operations added any value, and whether it is in, are the document's; of at most 20 transactions that may be and rise, and 100 right counts). Conditions: none beyond the given row. -/
/- Proved: whatever comes in, the law BagTells of chapter 15 returns true, and the input reads as it did (of any transactions, and any counts, a bag's values, which operations added any value, and whether it is in, are the document's; of at most 20 transactions that may be and rise, and 100 right counts). Conditions: none beyond the given row. -/
import Derived.Test.YtphggkbbjnpaeaaG47
import Derived.Test.YtphggkbbjnpaeaaG45
import Derived.Test.YtphggkbbjnpaeaaRows
set_option linter.all false
namespace Go.Proofs.Ytphggkbbjnpaeaa.bagTells
open Go Go.AR Go.ChangeShapes Go.WideShapes Go.ChangeAt Go.RowKit

theorem own : ownKnob Try.prog.godebug = none := by kernel_rfl
theorem laidOut : laidOutB Try.prog = true := by kernel_rfl

set_option maxRecDepth 100000 in
theorem lifted (os : Os) (started : os.Started) (H : Type) (enc : TypeId × Value → H) :
    ReturnsInHanded {} Try.checked os 3 .any (Rows.bagTellsSpec.pre6 enc Try.prog Try.f3 Rows.bagTellsRow.domain false) (Rows.bagTellsSpec.post enc Try.prog Try.f3 false true false false) := by
  refine law_lifted (C := Try.checked) enc [(.sl (.struct [(.struct [(.int .i64), (.int .i64)]), (.int .i64), (.int .i64), .bool, (.sl (.struct [(.int .i64), (.sl .str), (.struct [(.int .i64), (.int .i64), .str]), (.int .i64), (.sl (.struct [(.struct [(.int .i64), (.int .i64)]), (.int .i64)]))]))])), (.sl (.struct [(.struct [(.int .i64), (.int .i64)]), (.int .i64)])), (.sl .str), (.struct [(.int .i64), (.int .i64), .str])] Try.f3.resultTypes[0]! own started (by kernel_rfl) Try.func3 rfl laidOut (by kernel_rfl) (by kernel_rfl) (by kernel_rfl) (by kernel_rfl) ?_
    (ChangeSpec.witness6 (enc := enc) (C := Try.checked) false ⟨#[], #[.slice none 0 0, .slice none 0 0, .slice none 0 0, .agg #[.int .i64 0, .int .i64 0, .string ⟨#[]⟩]], []⟩ 8 (by kernel_rfl) (by kernel_rfl) (by kernel_rfl) (by kernel_rfl)) ?_
  · intro ds hl
    rcases ds with _ | ⟨d1, _ | ⟨d2, _ | ⟨d3, _ | ⟨d4, _ | ⟨d5, ds⟩⟩⟩⟩⟩ <;> simp at hl
    rfl
  · exact call_BagTells

theorem over : Rows.bagTellsRow.holds Try.pinned (OpenSpec.ofChange Rows.bagTellsSpec) :=
  OpenClaim.holds_of_wide 3 Try.f3 rfl rfl rfl rfl rfl rfl rfl ⟨rfl, rfl, rfl, rfl, rfl⟩ rfl rfl rfl rfl rfl (by kernel_rfl) Try.func3 (by kernel_rfl)
    (of_decide_eq_true (by kernel_rfl)) (by unfold Func.isWrapper; first | (rw [if_pos (by decide +kernel)]; kernel_rfl) | (rw [if_neg (by decide +kernel)]; exact ⟨rfl, rfl⟩))
    (fun os started H enc _ => lifted os started H enc)

/-- The statement. -/
theorem proved : Rows.BagTellsSaid := over
#print axioms proved
end Go.Proofs.Ytphggkbbjnpaeaa.bagTells
