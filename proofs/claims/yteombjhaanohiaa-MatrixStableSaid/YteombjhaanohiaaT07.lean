import Derived.Test.YteombjhaanohiaaP07
import Derived.Test.YteombjhaanohiaaZ07
import Derived.Test.YteombjhaanohiaaShapes
set_option linter.all false
/-! The contracts of chapter 07's seat. -/
namespace Go.AR
open Go Go.Proofs
abbrev C07 : CallRel := ACall Try.prog
theorem t7_both : S_vec_both C07 (C07 (F07 n_vec_both)) := by intro g f hf a b ha hb; exact a07_vec_both (g_vec_both g f hf a b ha hb)
theorem t7_Join_1 : S_fun2 (C07 (F07 n_vec_Join_1)) max := by intro a b; exact a07_vec_Join_1 (g_vec_Join_1 a b)
theorem t7_Meet_1 : S_fun2 (C07 (F07 n_vec_Meet_1)) min := by intro a b; exact a07_vec_Meet_1 (g_vec_Meet_1 a b)
theorem t7_Join : S_vec_op (C07 (F07 n_vec_Join)) max := by intro a b ha hb; exact a07_vec_Join (g_vec_Join t7_both t7_Join_1 a b ha hb)
theorem t7_Meet : S_vec_op (C07 (F07 n_vec_Meet)) min := by intro a b ha hb; exact a07_vec_Meet (g_vec_Meet t7_both t7_Meet_1 a b ha hb)
theorem t7_Right : S_dot_Right (C07 (F07 n_dot_Right)) := by intro r n; exact a07_dot_Right (g_dot_Right r n)
theorem t7_Has : S_vec_Has (C07 (F07 n_vec_Has)) := by intro v r n hv; exact a07_vec_Has (g_vec_Has t7_Right v r n hv)
theorem t7_rRight : S_dot_Right (C07 (F07 n_pref04_Right)) := by intro r n; exact a07_pref04_Right (g_pref04_Right r n)
theorem t7_rHas : S_vec_Has (C07 (F07 n_pref05_Has)) := by intro v r n hv; exact a07_pref05_Has (g_pref05_Has t7_rRight v r n hv)
theorem t7_rWithin : S_vec_Within (C07 (F07 n_pref05_Within)) := by intro a b ha hb; exact a07_pref05_Within (g_pref05_Within a b ha hb)
theorem t7_replica : S_replica (C07 (F07 n_matrix_replica)) := by intro i; exact a07_matrix_replica (g_replica i)
theorem t7_Learn : S_mlearn (C07 (F07 n_matrix_Matrix_Learn)) := by intro m i v hm hv; exact a07_matrix_Matrix_Learn (g_Learn t7_replica t7_Join m i v hm hv)
theorem t7_Row : S_mrow (C07 (F07 n_matrix_Matrix_Row)) := by intro m i hm; exact a07_matrix_Matrix_Row (g_Row t7_replica m i hm)
theorem t7_Frontier : S_mfront (C07 (F07 n_matrix_Matrix_Frontier)) := by intro m n hm; exact a07_matrix_Matrix_Frontier (g_Frontier t7_Meet m n hm)
theorem t7_Stable : S_mstable (C07 (F07 n_matrix_Matrix_Stable)) := by intro m n r k hm; exact a07_matrix_Matrix_Stable (g_Stable t7_Frontier t7_Has (fun m n h => front_len h n) m n r k hm)
theorem t7_awake : S_yes (C07 (F07 n_plaw07_awake)) := a07_plaw07_awake (g_law07_awake t7_Learn t7_Frontier t7_Stable)
theorem hasN_rows {k : IntKind} {c : Nat} : ∀ (n : Nat) (cs : List PV), hasN (Sh.arr c (.int k)).has n cs → ∃ l : List Int, l.length = n * c ∧ cs = l.map (.int k)
  | 0, cs, h => ⟨[], by simp, h⟩
  | n + 1, cs, h => by
    obtain ⟨a, b, e, ha, hb⟩ := h
    obtain ⟨l1, h1, h2, _⟩ := hasN_ints c a ha
    obtain ⟨l2, h3, h4⟩ := hasN_rows n b hb
    exact ⟨l1 ++ l2, by rw [List.length_append, h1, h3, Nat.add_mul]; omega, by rw [e, h2, h4, List.map_append]⟩
theorem call_MatrixRises : ∀ ps, HasArgs [.arr 16 (.arr 16 (.int .i64)), .int .i64, .arr 16 (.int .i64), .int .i64, .struct [.int .i64, .int .i64]] ps → ACall Try.prog 3 (ps.map .v) (.val (.bool true)) [] := by
  intro ps hps
  obtain ⟨c1, p1, h1, rfl, k1⟩ := args_cons hps
  obtain ⟨c2, p2, ⟨i, rfl, _⟩, rfl, k2⟩ := args_cons k1
  obtain ⟨c3, p3, h3, rfl, k3⟩ := args_cons k2
  obtain ⟨c4, p4, ⟨n, rfl, _⟩, rfl, k4⟩ := args_cons k3
  obtain ⟨c5, p5, h5, rfl, k5⟩ := args_cons k4
  obtain rfl := args_nil k5
  obtain ⟨m, hm, rfl⟩ := hasN_rows 16 c1 h1
  obtain ⟨v, hv, rfl, _⟩ := hasN_ints 16 c3 h3
  obtain ⟨_, _, rfl, ⟨r, rfl, _⟩, _, _, rfl, ⟨k, rfl, _⟩, rfl⟩ := h5
  exact a07_plaw07_MatrixRises (g_MatrixRises t7_awake t7_Learn t7_Frontier t7_Stable t7_rWithin m i v n r k hm hv)
end Go.AR
