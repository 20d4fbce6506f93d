import Derived.Test.YtpmagnceeobcbaaSvec
import Derived.Test.YtpmagnceeobcbaaZ05
import Derived.Test.YtpmagnceeobcbaaShapes
set_option linter.all false
/-! The contracts of chapter 05's seat. -/
namespace Go.AR
open Go Go.Proofs
abbrev C05 : CallRel := ACall Try.prog
theorem t_both : S_vec_both C05 (C05 (F05 n_vec_both)) := by intro g f hf a b ha hb; exact a05_vec_both (g_vec_both g f hf a b ha hb)
theorem t_Join_1 : S_fun2 (C05 (F05 n_vec_Join_1)) max := by intro a b; exact a05_vec_Join_1 (g_vec_Join_1 a b)
theorem t_Meet_1 : S_fun2 (C05 (F05 n_vec_Meet_1)) min := by intro a b; exact a05_vec_Meet_1 (g_vec_Meet_1 a b)
theorem t_Join : S_vec_op (C05 (F05 n_vec_Join)) max := by intro a b ha hb; exact a05_vec_Join (g_vec_Join t_both t_Join_1 a b ha hb)
theorem t_Meet : S_vec_op (C05 (F05 n_vec_Meet)) min := by intro a b ha hb; exact a05_vec_Meet (g_vec_Meet t_both t_Meet_1 a b ha hb)
theorem t_Within : S_vec_Within (C05 (F05 n_vec_Within)) := by intro a b ha hb; exact a05_vec_Within (g_vec_Within t_Meet a b ha hb)
theorem t_Right : S_dot_Right (C05 (F05 n_dot_Right)) := by intro r n; exact a05_dot_Right (g_dot_Right r n)
theorem t_Has : S_vec_Has (C05 (F05 n_vec_Has)) := by intro v r n hv; exact a05_vec_Has (g_vec_Has t_Right v r n hv)
theorem t_awake : S_yes (C05 (F05 n_plaw05_awake)) := a05_plaw05_awake (g_law05_awake t_Join t_Has)
theorem t_VecLattice : S_law3v (C05 (F05 n_plaw05_VecLattice)) := by intro a b c ha hb hc; exact a05_plaw05_VecLattice (g_VecLattice t_Join t_Meet t_Within t_awake a b c ha hb hc)
theorem t_VecDots : S_lawDots (C05 (F05 n_plaw05_VecDots)) := by intro a b r n ha hb; exact a05_plaw05_VecDots (g_VecDots t_Join t_Meet t_Within t_Has t_awake a b r n ha hb)
theorem call_VecDots : ∀ ps, HasArgs [.arr 16 (.int .i64), .arr 16 (.int .i64), .struct [.int .i64, .int .i64]] ps → ACall Try.prog 4 (ps.map .v) (.val (.bool true)) [] := by
  intro ps hps
  obtain ⟨c1, p1, h1, rfl, k1⟩ := args_cons hps
  obtain ⟨c2, p2, h2, rfl, k2⟩ := args_cons k1
  obtain ⟨c3, p3, h3, rfl, k3⟩ := args_cons k2
  obtain rfl := args_nil k3
  obtain ⟨a, ha, rfl, _⟩ := hasN_ints 16 c1 h1
  obtain ⟨b, hb, rfl, _⟩ := hasN_ints 16 c2 h2
  obtain ⟨_, _, rfl, ⟨r, rfl, _⟩, _, _, rfl, ⟨n, rfl, _⟩, rfl⟩ := h3
  exact t_VecDots a b r n ha hb
end Go.AR
