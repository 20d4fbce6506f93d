/- Proved: whatever comes in, the law NetNone of chapter 31 returns true, and the input reads as it did (a nil net has no messages, and stays so; no net has more than 200; of messages of at most 300 bytes). Conditions: none beyond the given row. -/
/- Proved: whatever comes in, the law NetNone of chapter 31 returns true, and the input reads as it did (a nil net has no messages, and stays so; no net has more than 200; of messages of at most 300 bytes). Conditions: none beyond the given row. -/
import Derived.Test.YtlhahjlnhkokcaaG33
import Derived.Test.YtlhahjlnhkokcaaG32
import Derived.Test.YtlhahjlnhkokcaaRows
set_option linter.all false
namespace Go.Proofs.Ytlhahjlnhkokcaa.netNone
open Go Go.AR Go.ChangeShapes Go.WideShapes Go.ChangeAt Go.RowKit

theorem own : ownKnob Try.prog.godebug = none := by kernel_rfl
theorem laidOut : laidOutB Try.prog = true := by kernel_rfl

set_option maxRecDepth 100000 in
theorem lifted (os : Os) (started : os.Started) (H : Type) (enc : TypeId × Value → H) :
    ReturnsInHanded {} Try.checked os 5 .any (Rows.netNoneSpec.pre6 enc Try.prog Try.f5 Rows.netNoneRow.domain false) (Rows.netNoneSpec.post enc Try.prog Try.f5 false true false false) := by
  refine law_lifted (C := Try.checked) enc [(.struct [(.int .i64), (.int .i64), .str]), (.int .i64), (.int .i64)] Try.f5.resultTypes[0]! own started (by kernel_rfl) Try.func5 rfl laidOut (by kernel_rfl) (by kernel_rfl) (by kernel_rfl) (by kernel_rfl) ?_
    (ChangeSpec.witness6 (enc := enc) (C := Try.checked) false ⟨#[], #[.agg #[.int .i64 0, .int .i64 0, .string ⟨#[]⟩], .int .i64 0, .int .i64 0], []⟩ 8 (by kernel_rfl) (by kernel_rfl) (by kernel_rfl) (by kernel_rfl)) ?_
  · intro ds hl
    rcases ds with _ | ⟨d1, _ | ⟨d2, _ | ⟨d3, _ | ⟨d4, ds⟩⟩⟩⟩ <;> simp at hl
    rfl
  · exact call_NetNone

theorem over : Rows.netNoneRow.holds Try.pinned (OpenSpec.ofChange Rows.netNoneSpec) :=
  OpenClaim.holds_of_wide 5 Try.f5 rfl rfl rfl rfl rfl rfl rfl ⟨rfl, rfl, rfl, rfl, rfl⟩ rfl rfl rfl rfl rfl (by kernel_rfl) Try.func5 (by kernel_rfl)
    (of_decide_eq_true (by kernel_rfl)) (by unfold Func.isWrapper; first | (rw [if_pos (by decide +kernel)]; kernel_rfl) | (rw [if_neg (by decide +kernel)]; exact ⟨rfl, rfl⟩))
    (fun os started H enc _ => lifted os started H enc)

/-- The statement. -/
theorem proved : Rows.NetNoneSaid := over
#print axioms proved
end Go.Proofs.Ytlhahjlnhkokcaa.netNone
