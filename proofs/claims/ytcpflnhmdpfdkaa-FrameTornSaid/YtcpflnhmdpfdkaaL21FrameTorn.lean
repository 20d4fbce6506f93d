/- Proved: whatever comes in, the law FrameTorn of chapter 21 returns true, and the input reads as it did (a torn tail: just the texts of those frames are told that are whole). Conditions: none beyond the given row. -/
import Derived.Test.YtcpflnhmdpfdkaaW21
import Derived.Test.YtcpflnhmdpfdkaaShapes
import Derived.Test.YtcpflnhmdpfdkaaRows
set_option linter.all false
namespace Go.Proofs.Ytcpflnhmdpfdkaa.frameTorn
open Go Go.AR Go.ChangeShapes Go.WideShapes Go.ChangeAt Go.RowKit

theorem own : ownKnob Try.prog.godebug = none := by kernel_rfl
theorem laidOut : laidOutB Try.prog = true := by kernel_rfl

set_option maxRecDepth 100000 in
theorem lifted (os : Os) (started : os.Started) (H : Type) (enc : TypeId × Value → H) :
    ReturnsInHanded {} Try.checked os 5 .any (Rows.frameTornSpec.pre6 enc Try.prog Try.f5 Rows.frameTornRow.domain false) (Rows.frameTornSpec.post enc Try.prog Try.f5 false true false false) := by
  refine law_lifted (C := Try.checked) enc [(.sl .str), (.int .i64)] Try.f5.resultTypes[0]! own started (by kernel_rfl) Try.func5 rfl laidOut (by kernel_rfl) (by kernel_rfl) (by kernel_rfl) (by kernel_rfl) ?_
    (ChangeSpec.witness6 (enc := enc) (C := Try.checked) false ⟨#[], #[.slice none 0 0, .int .i64 0], []⟩ 8 (by kernel_rfl) (by kernel_rfl) (by kernel_rfl) (by kernel_rfl)) ?_
  · intro ds hl
    rcases ds with _ | ⟨d1, _ | ⟨d2, _ | ⟨d3, ds⟩⟩⟩ <;> simp at hl
    rfl
  · exact call_FrameTorn

theorem over : Rows.frameTornRow.holds Try.pinned (OpenSpec.ofChange Rows.frameTornSpec) :=
  OpenClaim.holds_of_wide 5 Try.f5 rfl rfl rfl rfl rfl rfl rfl ⟨rfl, rfl, rfl, rfl, rfl⟩ rfl rfl rfl rfl rfl (by kernel_rfl) Try.func5 (by kernel_rfl)
    (of_decide_eq_true (by kernel_rfl)) (by unfold Func.isWrapper; first | (rw [if_pos (by decide +kernel)]; kernel_rfl) | (rw [if_neg (by decide +kernel)]; exact ⟨rfl, rfl⟩))
    (fun os started H enc _ => lifted os started H enc)

/-- The statement. -/
theorem proved : Rows.FrameTornSaid := over
#print axioms proved
end Go.Proofs.Ytcpflnhmdpfdkaa.frameTorn
