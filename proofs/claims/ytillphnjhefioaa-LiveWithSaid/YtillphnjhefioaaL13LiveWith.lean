/- Proved: whatever comes in, the law LiveWith of chapter 13 returns true, and the input reads as it did (a transaction more, that covers nothing, adds its own operations, unless they are covered, and takes none away; of at most 20 transactions that may be and rise, and 100 right counts). Conditions: none beyond the given row. -/
/- Proved: whatever comes in, the law LiveWith of chapter 13 returns true, and the input reads as it did (a transaction more, that covers nothing, adds its own operations, unless they are covered, and takes none away; of at most 20 transactions that may be and rise, and 100 right counts). Conditions: none beyond the given row. -/
import Derived.Test.YtillphnjhefioaaG47
import Derived.Test.YtillphnjhefioaaG45
import Derived.Test.YtillphnjhefioaaRows
set_option linter.all false
namespace Go.Proofs.Ytillphnjhefioaa.liveWith
open Go Go.AR Go.ChangeShapes Go.WideShapes Go.ChangeAt Go.RowKit

theorem own : ownKnob Try.prog.godebug = none := by kernel_rfl
theorem laidOut : laidOutB Try.prog = true := by kernel_rfl

set_option maxRecDepth 100000 in
theorem lifted (os : Os) (started : os.Started) (H : Type) (enc : TypeId × Value → H) :
    ReturnsInHanded {} Try.checked os 6 .any (Rows.liveWithSpec.pre6 enc Try.prog Try.f6 Rows.liveWithRow.domain false) (Rows.liveWithSpec.post enc Try.prog Try.f6 false true false false) := by
  refine law_lifted (C := Try.checked) enc [(.sl (.struct [(.struct [(.int .i64), (.int .i64)]), (.int .i64), (.int .i64), .bool, (.sl (.struct [(.int .i64), (.sl .str), (.struct [(.int .i64), (.int .i64), .str]), (.int .i64), (.sl (.struct [(.struct [(.int .i64), (.int .i64)]), (.int .i64)]))]))])), (.sl (.struct [(.struct [(.int .i64), (.int .i64)]), (.int .i64)])), (.struct [(.struct [(.int .i64), (.int .i64)]), (.int .i64), (.int .i64), .bool, (.sl (.struct [(.int .i64), (.sl .str), (.struct [(.int .i64), (.int .i64), .str]), (.int .i64), (.sl (.struct [(.struct [(.int .i64), (.int .i64)]), (.int .i64)]))]))])] Try.f6.resultTypes[0]! own started (by kernel_rfl) Try.func6 rfl laidOut (by kernel_rfl) (by kernel_rfl) (by kernel_rfl) (by kernel_rfl) ?_
    (ChangeSpec.witness6 (enc := enc) (C := Try.checked) false ⟨#[], #[.slice none 0 0, .slice none 0 0, .agg #[.int .i64 0, .int .i64 0, .int .i64 0, .int .i64 0, .bool false, .slice none 0 0]], []⟩ 8 (by kernel_rfl) (by kernel_rfl) (by kernel_rfl) (by kernel_rfl)) ?_
  · intro ds hl
    rcases ds with _ | ⟨d1, _ | ⟨d2, _ | ⟨d3, _ | ⟨d4, ds⟩⟩⟩⟩ <;> simp at hl
    rfl
  · exact call_LiveWith

theorem over : Rows.liveWithRow.holds Try.pinned (OpenSpec.ofChange Rows.liveWithSpec) :=
  OpenClaim.holds_of_wide 6 Try.f6 rfl rfl rfl rfl rfl rfl rfl ⟨rfl, rfl, rfl, rfl, rfl⟩ rfl rfl rfl rfl rfl (by kernel_rfl) Try.func6 (by kernel_rfl)
    (of_decide_eq_true (by kernel_rfl)) (by unfold Func.isWrapper; first | (rw [if_pos (by decide +kernel)]; kernel_rfl) | (rw [if_neg (by decide +kernel)]; exact ⟨rfl, rfl⟩))
    (fun os started H enc _ => lifted os started H enc)

/-- The statement. -/
theorem proved : Rows.LiveWithSaid := over
#print axioms proved
end Go.Proofs.Ytillphnjhefioaa.liveWith
