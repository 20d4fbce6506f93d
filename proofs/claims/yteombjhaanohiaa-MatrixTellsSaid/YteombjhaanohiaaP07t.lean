import Derived.Test.YteombjhaanohiaaS07d
set_option linter.all false
/-! MatrixTells and MatrixJoins. -/
namespace Go.AR
open Go
section
variable {C : CallRel} {F : Nat → FuncId}
theorem eqlI_self {l : List Int} : (l == l) = true := by simp
theorem eqbB_self {b : Bool} : (b == b) = true := by cases b <;> rfl
theorem eqI_self {x : Int} : (x == x) = true := by simp
def S_lawMTells (R : Rel) : Prop := ∀ (m : List Int) (i : Int) (v : List Int) (n r k : Int), m.length = 256 → v.length = 16 → R [.v (vecP m), .v (.int .i64 i), .v (vecP v), .v (.int .i64 n), .v (.agg [.int .i64 r, .int .i64 k])] (.val (.bool true)) []
set_option maxHeartbeats 8000000 in
theorem g_MatrixTells (hA : S_yes (C (F n_plaw07_awake))) (h1 : S_mlearn (C (F n_matrix_Matrix_Learn))) (h2 : S_mlearn (C (F n_pref07_Learn))) (h3 : S_mrow (C (F n_matrix_Matrix_Row))) (h4 : S_mfront (C (F n_matrix_Matrix_Frontier))) (h5 : S_mfront (C (F n_pref07_Frontier))) (h6 : S_mstable (C (F n_matrix_Matrix_Stable))) (h7 : S_vec_Has (C (F n_pref05_Has))) (h8 : S_mright (C (F n_plaw07_right))) (h9 : S_mbehind (C (F n_matrix_Matrix_Behind))) (h10 : S_mbehind (C (F n_pref07_Behind))) : S_lawMTells ((c_plaw07_MatrixTells F).gives C) := by
  intro m i v n r k hm hv
  have hy := learn_len (i := i) hm hv
  have hfl := front_len hm n
  refine gives_of rfl ?_
  unfold c_plaw07_MatrixTells
  have tail : ∀ (K : RV → List Blk → Prop), K (.val (.bool true)) [] → callWp C (F n_plaw07_awake) [] K := fun K k => callWp_of hA k
  have rest : ∀ {row : List Int}, row.length = 16 → (if isRep i = true then rowOf m i.toNat else zero16) = row → True := fun _ _ => trivial
  simp only [walk, Nat.reduceLT, Nat.reduceBEq, Nat.reduceAdd, Nat.reduceLeDiff, reduceIte, Int.reduceLT, Int.reduceLE, Int.reduceEq, Int.reduceToNat, Int.reduceBEq, hm, hv]
  by_cases c1 : i ≥ 0
  · by_cases c2 : i < 16
    · have hrep : isRep i = true := isRep_iff.2 ⟨c1, c2⟩
      have c1' : 0 ≤ i := c1
      have hrl := rowOf_len hm (i := i.toNat) (by omega)
      simp only [walk, Nat.reduceLT, Nat.reduceBEq, Nat.reduceAdd, Nat.reduceLeDiff, reduceIte, Int.reduceLT, Int.reduceLE, Int.reduceEq, Int.reduceToNat, Int.reduceBEq, hm, hv, c1, c2, c1', load_row, hrl]
      refine callWp_of (h1 m i v hm hv) ?_
      simp only [walk, Nat.reduceLT, Nat.reduceBEq, Nat.reduceAdd, Nat.reduceLeDiff, reduceIte, Int.reduceLT, Int.reduceLE, Int.reduceEq, Int.reduceToNat, Int.reduceBEq, hm, hv, hy, hrl]
      refine callWp_of (h2 m i v hm hv) ?_
      simp only [walk, Nat.reduceLT, Nat.reduceBEq, Nat.reduceAdd, Nat.reduceLeDiff, reduceIte, Int.reduceLT, Int.reduceLE, Int.reduceEq, Int.reduceToNat, Int.reduceBEq, hm, hv, hy, hrl, eqlI_self]
      refine callWp_of (h3 m i hm) ?_
      rw [hrep]
      simp only [walk, Nat.reduceLT, Nat.reduceBEq, Nat.reduceAdd, Nat.reduceLeDiff, reduceIte, Int.reduceLT, Int.reduceLE, Int.reduceEq, Int.reduceToNat, Int.reduceBEq, hm, hv, hy, hrl, eqlI_self]
      refine callWp_of (h4 m n hm) ?_
      simp only [walk, Nat.reduceLT, Nat.reduceBEq, Nat.reduceAdd, Nat.reduceLeDiff, reduceIte, Int.reduceLT, Int.reduceLE, Int.reduceEq, Int.reduceToNat, Int.reduceBEq, hm, hv, hy, hrl, hfl]
      refine callWp_of (h5 m n hm) ?_
      simp only [walk, Nat.reduceLT, Nat.reduceBEq, Nat.reduceAdd, Nat.reduceLeDiff, reduceIte, Int.reduceLT, Int.reduceLE, Int.reduceEq, Int.reduceToNat, Int.reduceBEq, hm, hv, hy, hrl, hfl, eqlI_self]
      refine callWp_of (h6 m n r k hm) ?_
      simp only [walk, Nat.reduceLT, Nat.reduceBEq, Nat.reduceAdd, Nat.reduceLeDiff, reduceIte, Int.reduceLT, Int.reduceLE, Int.reduceEq, Int.reduceToNat, Int.reduceBEq, hm, hv, hy, hrl, hfl]
      refine callWp_of (h5 m n hm) ?_
      simp only [walk, Nat.reduceLT, Nat.reduceBEq, Nat.reduceAdd, Nat.reduceLeDiff, reduceIte, Int.reduceLT, Int.reduceLE, Int.reduceEq, Int.reduceToNat, Int.reduceBEq, hm, hv, hy, hrl, hfl]
      refine callWp_of (h7 _ r k hfl) ?_
      simp only [walk, Nat.reduceLT, Nat.reduceBEq, Nat.reduceAdd, Nat.reduceLeDiff, reduceIte, Int.reduceLT, Int.reduceLE, Int.reduceEq, Int.reduceToNat, Int.reduceBEq, hm, hv, hy, hrl, hfl, eqbB_self]
      refine callWp_of (h8 m hm) ?_
      cases hr : rightM m
      · simp only [walk, Nat.reduceLT, Nat.reduceBEq, Nat.reduceAdd, Nat.reduceLeDiff, reduceIte, Int.reduceLT, Int.reduceLE, Int.reduceEq, Int.reduceToNat, Int.reduceBEq]
        refine tail _ ?_
        simp only [walk, Nat.reduceLT, Nat.reduceBEq, Nat.reduceAdd, Nat.reduceLeDiff, reduceIte, Int.reduceLT, Int.reduceLE, Int.reduceEq, Int.reduceToNat, Int.reduceBEq]
      · simp only [walk, Nat.reduceLT, Nat.reduceBEq, Nat.reduceAdd, Nat.reduceLeDiff, reduceIte, Int.reduceLT, Int.reduceLE, Int.reduceEq, Int.reduceToNat, Int.reduceBEq, hm]
        refine callWp_of (h9 m n i hm hr) ?_
        simp only [walk, Nat.reduceLT, Nat.reduceBEq, Nat.reduceAdd, Nat.reduceLeDiff, reduceIte, Int.reduceLT, Int.reduceLE, Int.reduceEq, Int.reduceToNat, Int.reduceBEq, hm]
        refine callWp_of (h10 m n i hm hr) ?_
        simp only [walk, Nat.reduceLT, Nat.reduceBEq, Nat.reduceAdd, Nat.reduceLeDiff, reduceIte, Int.reduceLT, Int.reduceLE, Int.reduceEq, Int.reduceToNat, Int.reduceBEq, eqI_self]
        refine tail _ ?_
        simp only [walk, Nat.reduceLT, Nat.reduceBEq, Nat.reduceAdd, Nat.reduceLeDiff, reduceIte, Int.reduceLT, Int.reduceLE, Int.reduceEq, Int.reduceToNat, Int.reduceBEq]
    · have hrep : isRep i = false := by rw [← Bool.not_eq_true, isRep_iff]; omega
      have c1' : 0 ≤ i := c1
      have z : vecP (if (false : Bool) = true then rowOf m i.toNat else zero16) = .agg (List.replicate 16 (.int .i64 0)) := rfl
      have z2 : (List.replicate 16 (0 : Int)).length = 16 := rfl
      have zl : (List.replicate 16 (PV.int .i64 0)) = (List.replicate 16 (0 : Int)).map (.int .i64) := rfl
      simp only [walk, Nat.reduceLT, Nat.reduceBEq, Nat.reduceAdd, Nat.reduceLeDiff, reduceIte, Int.reduceLT, Int.reduceLE, Int.reduceEq, Int.reduceToNat, Int.reduceBEq, hm, hv, c1, c2, c1']
      refine callWp_of (h1 m i v hm hv) ?_
      simp only [walk, Nat.reduceLT, Nat.reduceBEq, Nat.reduceAdd, Nat.reduceLeDiff, reduceIte, Int.reduceLT, Int.reduceLE, Int.reduceEq, Int.reduceToNat, Int.reduceBEq, hm, hv, hy]
      refine callWp_of (h2 m i v hm hv) ?_
      simp only [walk, Nat.reduceLT, Nat.reduceBEq, Nat.reduceAdd, Nat.reduceLeDiff, reduceIte, Int.reduceLT, Int.reduceLE, Int.reduceEq, Int.reduceToNat, Int.reduceBEq, hm, hv, hy, eqlI_self]
      refine callWp_of (h3 m i hm) ?_
      rw [hrep, z, zl]
      simp only [walk, Nat.reduceLT, Nat.reduceBEq, Nat.reduceAdd, Nat.reduceLeDiff, reduceIte, Int.reduceLT, Int.reduceLE, Int.reduceEq, Int.reduceToNat, Int.reduceBEq, hm, hv, hy, eqlI_self, z2]
      refine callWp_of (h4 m n hm) ?_
      simp only [walk, Nat.reduceLT, Nat.reduceBEq, Nat.reduceAdd, Nat.reduceLeDiff, reduceIte, Int.reduceLT, Int.reduceLE, Int.reduceEq, Int.reduceToNat, Int.reduceBEq, hm, hv, hy, hfl]
      refine callWp_of (h5 m n hm) ?_
      simp only [walk, Nat.reduceLT, Nat.reduceBEq, Nat.reduceAdd, Nat.reduceLeDiff, reduceIte, Int.reduceLT, Int.reduceLE, Int.reduceEq, Int.reduceToNat, Int.reduceBEq, hm, hv, hy, hfl, eqlI_self]
      refine callWp_of (h6 m n r k hm) ?_
      simp only [walk, Nat.reduceLT, Nat.reduceBEq, Nat.reduceAdd, Nat.reduceLeDiff, reduceIte, Int.reduceLT, Int.reduceLE, Int.reduceEq, Int.reduceToNat, Int.reduceBEq, hm, hv, hy, hfl]
      refine callWp_of (h5 m n hm) ?_
      simp only [walk, Nat.reduceLT, Nat.reduceBEq, Nat.reduceAdd, Nat.reduceLeDiff, reduceIte, Int.reduceLT, Int.reduceLE, Int.reduceEq, Int.reduceToNat, Int.reduceBEq, hm, hv, hy, hfl]
      refine callWp_of (h7 _ r k hfl) ?_
      simp only [walk, Nat.reduceLT, Nat.reduceBEq, Nat.reduceAdd, Nat.reduceLeDiff, reduceIte, Int.reduceLT, Int.reduceLE, Int.reduceEq, Int.reduceToNat, Int.reduceBEq, hm, hv, hy, hfl, eqbB_self]
      refine callWp_of (h8 m hm) ?_
      cases hr : rightM m
      · simp only [walk, Nat.reduceLT, Nat.reduceBEq, Nat.reduceAdd, Nat.reduceLeDiff, reduceIte, Int.reduceLT, Int.reduceLE, Int.reduceEq, Int.reduceToNat, Int.reduceBEq]
        refine tail _ ?_
        simp only [walk, Nat.reduceLT, Nat.reduceBEq, Nat.reduceAdd, Nat.reduceLeDiff, reduceIte, Int.reduceLT, Int.reduceLE, Int.reduceEq, Int.reduceToNat, Int.reduceBEq]
      · simp only [walk, Nat.reduceLT, Nat.reduceBEq, Nat.reduceAdd, Nat.reduceLeDiff, reduceIte, Int.reduceLT, Int.reduceLE, Int.reduceEq, Int.reduceToNat, Int.reduceBEq, hm]
        refine callWp_of (h9 m n i hm hr) ?_
        simp only [walk, Nat.reduceLT, Nat.reduceBEq, Nat.reduceAdd, Nat.reduceLeDiff, reduceIte, Int.reduceLT, Int.reduceLE, Int.reduceEq, Int.reduceToNat, Int.reduceBEq, hm]
        refine callWp_of (h10 m n i hm hr) ?_
        simp only [walk, Nat.reduceLT, Nat.reduceBEq, Nat.reduceAdd, Nat.reduceLeDiff, reduceIte, Int.reduceLT, Int.reduceLE, Int.reduceEq, Int.reduceToNat, Int.reduceBEq, eqI_self]
        refine tail _ ?_
        simp only [walk, Nat.reduceLT, Nat.reduceBEq, Nat.reduceAdd, Nat.reduceLeDiff, reduceIte, Int.reduceLT, Int.reduceLE, Int.reduceEq, Int.reduceToNat, Int.reduceBEq]
  · have hrep : isRep i = false := by rw [← Bool.not_eq_true, isRep_iff]; omega
    have z : vecP (if (false : Bool) = true then rowOf m i.toNat else zero16) = .agg (List.replicate 16 (.int .i64 0)) := rfl
    have z2 : (List.replicate 16 (0 : Int)).length = 16 := rfl
    have zl : (List.replicate 16 (PV.int .i64 0)) = (List.replicate 16 (0 : Int)).map (.int .i64) := rfl
    simp only [walk, Nat.reduceLT, Nat.reduceBEq, Nat.reduceAdd, Nat.reduceLeDiff, reduceIte, Int.reduceLT, Int.reduceLE, Int.reduceEq, Int.reduceToNat, Int.reduceBEq, hm, hv, c1]
    refine callWp_of (h1 m i v hm hv) ?_
    simp only [walk, Nat.reduceLT, Nat.reduceBEq, Nat.reduceAdd, Nat.reduceLeDiff, reduceIte, Int.reduceLT, Int.reduceLE, Int.reduceEq, Int.reduceToNat, Int.reduceBEq, hm, hv, hy]
    refine callWp_of (h2 m i v hm hv) ?_
    simp only [walk, Nat.reduceLT, Nat.reduceBEq, Nat.reduceAdd, Nat.reduceLeDiff, reduceIte, Int.reduceLT, Int.reduceLE, Int.reduceEq, Int.reduceToNat, Int.reduceBEq, hm, hv, hy, eqlI_self]
    refine callWp_of (h3 m i hm) ?_
    rw [hrep, z, zl]
    simp only [walk, Nat.reduceLT, Nat.reduceBEq, Nat.reduceAdd, Nat.reduceLeDiff, reduceIte, Int.reduceLT, Int.reduceLE, Int.reduceEq, Int.reduceToNat, Int.reduceBEq, hm, hv, hy, eqlI_self, z2]
    refine callWp_of (h4 m n hm) ?_
    simp only [walk, Nat.reduceLT, Nat.reduceBEq, Nat.reduceAdd, Nat.reduceLeDiff, reduceIte, Int.reduceLT, Int.reduceLE, Int.reduceEq, Int.reduceToNat, Int.reduceBEq, hm, hv, hy, hfl]
    refine callWp_of (h5 m n hm) ?_
    simp only [walk, Nat.reduceLT, Nat.reduceBEq, Nat.reduceAdd, Nat.reduceLeDiff, reduceIte, Int.reduceLT, Int.reduceLE, Int.reduceEq, Int.reduceToNat, Int.reduceBEq, hm, hv, hy, hfl, eqlI_self]
    refine callWp_of (h6 m n r k hm) ?_
    simp only [walk, Nat.reduceLT, Nat.reduceBEq, Nat.reduceAdd, Nat.reduceLeDiff, reduceIte, Int.reduceLT, Int.reduceLE, Int.reduceEq, Int.reduceToNat, Int.reduceBEq, hm, hv, hy, hfl]
    refine callWp_of (h5 m n hm) ?_
    simp only [walk, Nat.reduceLT, Nat.reduceBEq, Nat.reduceAdd, Nat.reduceLeDiff, reduceIte, Int.reduceLT, Int.reduceLE, Int.reduceEq, Int.reduceToNat, Int.reduceBEq, hm, hv, hy, hfl]
    refine callWp_of (h7 _ r k hfl) ?_
    simp only [walk, Nat.reduceLT, Nat.reduceBEq, Nat.reduceAdd, Nat.reduceLeDiff, reduceIte, Int.reduceLT, Int.reduceLE, Int.reduceEq, Int.reduceToNat, Int.reduceBEq, hm, hv, hy, hfl, eqbB_self]
    refine callWp_of (h8 m hm) ?_
    cases hr : rightM m
    · simp only [walk, Nat.reduceLT, Nat.reduceBEq, Nat.reduceAdd, Nat.reduceLeDiff, reduceIte, Int.reduceLT, Int.reduceLE, Int.reduceEq, Int.reduceToNat, Int.reduceBEq]
      refine tail _ ?_
      simp only [walk, Nat.reduceLT, Nat.reduceBEq, Nat.reduceAdd, Nat.reduceLeDiff, reduceIte, Int.reduceLT, Int.reduceLE, Int.reduceEq, Int.reduceToNat, Int.reduceBEq]
    · simp only [walk, Nat.reduceLT, Nat.reduceBEq, Nat.reduceAdd, Nat.reduceLeDiff, reduceIte, Int.reduceLT, Int.reduceLE, Int.reduceEq, Int.reduceToNat, Int.reduceBEq, hm]
      refine callWp_of (h9 m n i hm hr) ?_
      simp only [walk, Nat.reduceLT, Nat.reduceBEq, Nat.reduceAdd, Nat.reduceLeDiff, reduceIte, Int.reduceLT, Int.reduceLE, Int.reduceEq, Int.reduceToNat, Int.reduceBEq, hm]
      refine callWp_of (h10 m n i hm hr) ?_
      simp only [walk, Nat.reduceLT, Nat.reduceBEq, Nat.reduceAdd, Nat.reduceLeDiff, reduceIte, Int.reduceLT, Int.reduceLE, Int.reduceEq, Int.reduceToNat, Int.reduceBEq, eqI_self]
      refine tail _ ?_
      simp only [walk, Nat.reduceLT, Nat.reduceBEq, Nat.reduceAdd, Nat.reduceLeDiff, reduceIte, Int.reduceLT, Int.reduceLE, Int.reduceEq, Int.reduceToNat, Int.reduceBEq]
end
end Go.AR
