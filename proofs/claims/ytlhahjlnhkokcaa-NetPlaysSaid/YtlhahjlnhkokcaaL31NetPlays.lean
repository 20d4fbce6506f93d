/- Proved: whatever comes in, the law NetPlays of chapter 31 returns true, and the input reads as it did (whatever is done on a net and on the reference's net, both answer the same and hold the same). Conditions: none beyond the given row. -/
/- Proved: whatever comes in, the law NetPlays of chapter 31 returns true, and the input reads as it did (whatever is done on a net and on the reference's net, both answer the same and hold the same). Conditions: none beyond the given row. -/
import Derived.Test.YtlhahjlnhkokcaaG36
import Derived.Test.YtlhahjlnhkokcaaG35
import Derived.Test.YtlhahjlnhkokcaaRows
set_option linter.all false
namespace Go.Proofs.Ytlhahjlnhkokcaa.netPlays
open Go Go.AR Go.ChangeShapes Go.WideShapes Go.ChangeAt Go.RowKit

theorem own : ownKnob Try.prog.godebug = none := by kernel_rfl
theorem laidOut : laidOutB Try.prog = true := by kernel_rfl

set_option maxRecDepth 100000 in
theorem lifted (os : Os) (started : os.Started) (H : Type) (enc : TypeId × Value → H) :
    ReturnsInHanded {} Try.checked os 4 .any (Rows.netPlaysSpec.pre6 enc Try.prog Try.f4 Rows.netPlaysRow.domain false) (Rows.netPlaysSpec.post enc Try.prog Try.f4 false true false false) := by
  refine law_lifted (C := Try.checked) enc [(.sl (.struct [(.int .i64), (.int .i64), (.int .i64), (.struct [(.int .i64), (.int .i64), .str])]))] Try.f4.resultTypes[0]! own started (by kernel_rfl) Try.func4 rfl laidOut (by kernel_rfl) (by kernel_rfl) (by kernel_rfl) (by kernel_rfl) ?_
    (ChangeSpec.witness6 (enc := enc) (C := Try.checked) false ⟨#[], #[.slice none 0 0], []⟩ 8 (by kernel_rfl) (by kernel_rfl) (by kernel_rfl) (by kernel_rfl)) ?_
  · intro ds hl
    rcases ds with _ | ⟨d1, _ | ⟨d2, ds⟩⟩ <;> simp at hl
    rfl
  · exact call_NetPlays

theorem over : Rows.netPlaysRow.holds Try.pinned (OpenSpec.ofChange Rows.netPlaysSpec) :=
  OpenClaim.holds_of_wide 4 Try.f4 rfl rfl rfl rfl rfl rfl rfl ⟨rfl, rfl, rfl, rfl, rfl⟩ rfl rfl rfl rfl rfl (by kernel_rfl) Try.func4 (by kernel_rfl)
    (of_decide_eq_true (by kernel_rfl)) (by unfold Func.isWrapper; first | (rw [if_pos (by decide +kernel)]; kernel_rfl) | (rw [if_neg (by decide +kernel)]; exact ⟨rfl, rfl⟩))
    (fun os started H enc _ => lifted os started H enc)

/-- The statement. -/
theorem proved : Rows.NetPlaysSaid := over
#print axioms proved
end Go.Proofs.Ytlhahjlnhkokcaa.netPlays
