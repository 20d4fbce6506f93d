/- Proved: whatever three vectors come in, the law VecLattice of chapter 05 returns true, and the vectors read as they did. Conditions: none beyond the given row's. -/
import Derived.Test.YtpmagnceeobcbaaSvec
import Derived.Test.YtpmagnceeobcbaaZ05
import Derived.Test.YtpmagnceeobcbaaShapes
import Derived.Test.YtpmagnceeobcbaaRows
set_option linter.all false
namespace Go.AR
open Go Go.Proofs
abbrev C05 : CallRel := ACall Try.prog
theorem t_both : S_vec_both C05 (C05 (F05 n_vec_both)) := by intro g f hf a b ha hb; exact a05_vec_both (g_vec_both g f hf a b ha hb)
theorem t_Join_1 : S_fun2 (C05 (F05 n_vec_Join_1)) max := by intro a b; exact a05_vec_Join_1 (g_vec_Join_1 a b)
theorem t_Meet_1 : S_fun2 (C05 (F05 n_vec_Meet_1)) min := by intro a b; exact a05_vec_Meet_1 (g_vec_Meet_1 a b)
theorem t_Join : S_vec_op (C05 (F05 n_vec_Join)) max := by intro a b ha hb; exact a05_vec_Join (g_vec_Join t_both t_Join_1 a b ha hb)
theorem t_Meet : S_vec_op (C05 (F05 n_vec_Meet)) min := by intro a b ha hb; exact a05_vec_Meet (g_vec_Meet t_both t_Meet_1 a b ha hb)
theorem t_Within : S_vec_Within (C05 (F05 n_vec_Within)) := by intro a b ha hb; exact a05_vec_Within (g_vec_Within t_Meet a b ha hb)
theorem t_Right : S_dot_Right (C05 (F05 n_dot_Right)) := by intro r n; exact a05_dot_Right (g_dot_Right r n)
theorem t_Has : S_vec_Has (C05 (F05 n_vec_Has)) := by intro v r n hv; exact a05_vec_Has (g_vec_Has t_Right v r n hv)
theorem t_awake : S_yes (C05 (F05 n_plaw05_awake)) := a05_plaw05_awake (g_law05_awake t_Join t_Has)
theorem t_VecLattice : S_law3v (C05 (F05 n_plaw05_VecLattice)) := by intro a b c ha hb hc; exact a05_plaw05_VecLattice (g_VecLattice t_Join t_Meet t_Within t_awake a b c ha hb hc)
end Go.AR
namespace Go.Proofs.Ytpmagnceeobcbaa.lattice
open Go Go.AR Go.ChangeShapes Go.WideShapes Go.ChangeAt Go.RowKit

theorem own : ownKnob Try.prog.godebug = none := by kernel_rfl
theorem laidOut : laidOutB Try.prog = true := by kernel_rfl

set_option maxRecDepth 100000 in
theorem lifted (os : Os) (started : os.Started) (H : Type) (enc : TypeId × Value → H) :
    ReturnsInHanded {} Try.checked os 3 .any (Rows.vecLatticeSpec.pre6 enc Try.prog Try.f3 Rows.vecLatticeRow.domain false) (Rows.vecLatticeSpec.post enc Try.prog Try.f3 false true false false) := by
  refine law_lifted (C := Try.checked) enc [.arr 16 (.int .i64), .arr 16 (.int .i64), .arr 16 (.int .i64)] Try.f3.resultTypes[0]! own started (by kernel_rfl) Try.func3 rfl laidOut (by kernel_rfl) (by kernel_rfl) (by kernel_rfl) (by kernel_rfl) ?_
    (ChangeSpec.witness6 (enc := enc) (C := Try.checked) false ⟨#[], #[.agg (Array.replicate 16 (.int .i64 0)), .agg (Array.replicate 16 (.int .i64 0)), .agg (Array.replicate 16 (.int .i64 0))], []⟩ 8 (by kernel_rfl) (by kernel_rfl) (by kernel_rfl) (by kernel_rfl)) ?_
  · intro ds hl
    rcases ds with _ | ⟨d1, _ | ⟨d2, _ | ⟨d3, _ | ⟨d4, ds⟩⟩⟩⟩ <;> simp at hl
    rfl
  · intro ps hps
    obtain ⟨c1, p1, h1, rfl, k1⟩ := args_cons hps
    obtain ⟨c2, p2, h2, rfl, k2⟩ := args_cons k1
    obtain ⟨c3, p3, h3, rfl, k3⟩ := args_cons k2
    obtain rfl := args_nil k3
    obtain ⟨a, ha, rfl, _⟩ := hasN_ints 16 c1 h1
    obtain ⟨b, hb, rfl, _⟩ := hasN_ints 16 c2 h2
    obtain ⟨c, hc, rfl, _⟩ := hasN_ints 16 c3 h3
    exact t_VecLattice a b c ha hb hc

theorem over : Rows.vecLatticeRow.holds Try.pinned (OpenSpec.ofChange Rows.vecLatticeSpec) :=
  OpenClaim.holds_of_wide 3 Try.f3 rfl rfl rfl rfl rfl rfl rfl ⟨rfl, rfl, rfl, rfl, rfl⟩ rfl rfl rfl rfl rfl (by kernel_rfl) Try.func3 (by kernel_rfl)
    (of_decide_eq_true (by kernel_rfl)) (by unfold Func.isWrapper; first | (rw [if_pos (by decide +kernel)]; kernel_rfl) | (rw [if_neg (by decide +kernel)]; exact ⟨rfl, rfl⟩))
    (fun os started H enc _ => lifted os started H enc)

/-- The statement. -/
theorem proved : Rows.VecLatticeSaid := over
#print axioms proved
end Go.Proofs.Ytpmagnceeobcbaa.lattice
