/- Proved: whatever comes in, the law FrameFinds of chapter 21 returns true, and the input reads as it did (a changed byte is found). Conditions: none beyond the given row. -/
import Derived.Test.YtcpflnhmdpfdkaaW21
import Derived.Test.YtcpflnhmdpfdkaaShapes
import Derived.Test.YtcpflnhmdpfdkaaRows
set_option linter.all false
namespace Go.Proofs.Ytcpflnhmdpfdkaa.frameFinds
open Go Go.AR Go.ChangeShapes Go.WideShapes Go.ChangeAt Go.RowKit

theorem own : ownKnob Try.prog.godebug = none := by kernel_rfl
theorem laidOut : laidOutB Try.prog = true := by kernel_rfl

set_option maxRecDepth 100000 in
theorem lifted (os : Os) (started : os.Started) (H : Type) (enc : TypeId × Value → H) :
    ReturnsInHanded {} Try.checked os 6 .any (Rows.frameFindsSpec.pre6 enc Try.prog Try.f6 Rows.frameFindsRow.domain false) (Rows.frameFindsSpec.post enc Try.prog Try.f6 false true false false) := by
  refine law_lifted (C := Try.checked) enc [(.sl .str), .str, (.int .i64), (.int .u8)] Try.f6.resultTypes[0]! own started (by kernel_rfl) Try.func6 rfl laidOut (by kernel_rfl) (by kernel_rfl) (by kernel_rfl) (by kernel_rfl) ?_
    (ChangeSpec.witness6 (enc := enc) (C := Try.checked) false ⟨#[], #[.slice none 0 0, .string ⟨#[]⟩, .int .i64 0, .int .u8 0], []⟩ 8 (by kernel_rfl) (by kernel_rfl) (by kernel_rfl) (by kernel_rfl)) ?_
  · intro ds hl
    rcases ds with _ | ⟨d1, _ | ⟨d2, _ | ⟨d3, _ | ⟨d4, _ | ⟨d5, ds⟩⟩⟩⟩⟩ <;> simp at hl
    rfl
  · exact call_FrameFinds

theorem over : Rows.frameFindsRow.holds Try.pinned (OpenSpec.ofChange Rows.frameFindsSpec) :=
  OpenClaim.holds_of_wide 6 Try.f6 rfl rfl rfl rfl rfl rfl rfl ⟨rfl, rfl, rfl, rfl, rfl⟩ rfl rfl rfl rfl rfl (by kernel_rfl) Try.func6 (by kernel_rfl)
    (of_decide_eq_true (by kernel_rfl)) (by unfold Func.isWrapper; first | (rw [if_pos (by decide +kernel)]; kernel_rfl) | (rw [if_neg (by decide +kernel)]; exact ⟨rfl, rfl⟩))
    (fun os started H enc _ => lifted os started H enc)

/-- The statement. -/
theorem proved : Rows.FrameFindsSaid := over
#print axioms proved
end Go.Proofs.Ytcpflnhmdpfdkaa.frameFinds
